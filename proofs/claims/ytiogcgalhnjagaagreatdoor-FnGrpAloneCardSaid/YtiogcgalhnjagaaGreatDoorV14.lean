import Derived.Test.YtiogcgalhnjagaaGreatDoorV10
import Derived.Test.YtiogcgalhnjagaaGreatDoorV11
import Derived.Test.YtiogcgalhnjagaaGreatDoorV12
import Derived.Test.YtiogcgalhnjagaaGreatDoorV13
namespace Kw
open Go Go.Proofs
set_option linter.unusedVariables false
set_option linter.unusedSimpArgs false
set_option maxRecDepth 100000
set_option maxHeartbeats 0
def LL : Nat := 1099511627776
def fnOf : List MV → Nat | [_, .fn g _] => g | _ => 0
def B_3_7 (rec : Run) (self : List Row → List Row → List Row → List Row → List Row → List Row → List Row → List Row → List Row → List Row → Int → Int → Int → Option Res) (r0 : List Row) (r1 : List Row) (r2 : List Row) (r3 : List Row) (r4 : List Row) (r5 : List Row) (r6 : List Row) (r7 : List Row) (r8 : List Row) (r9 : List Row) (i10 : Int) (i11 : Int) (i12 : Int) : Option Res := br (iLt i12 i11) (bnd (rec 8 [MV.agg [MV.sl r0, MV.sl r1, MV.sl r2, MV.sl r3, MV.sl r4, MV.sl r5, MV.sl r6, MV.sl r7, MV.sl r8, MV.sl r9], MV.agg [MV.int IntKind.i64 1, MV.int IntKind.i64 i10, MV.int IntKind.i64 (-1), MV.int IntKind.i64 (-1), MV.int IntKind.i64 0, MV.str (bs [])]] []) fun r => bnd (gAggN 10 r.1) fun cs => bnd (gSl (cellAt cs 0)) fun r => bnd (gSl (cellAt cs 1)) fun r_1 => bnd (gSl (cellAt cs 2)) fun r_2 => bnd (gSl (cellAt cs 3)) fun r_3 => bnd (gSl (cellAt cs 4)) fun r_4 => bnd (gSl (cellAt cs 5)) fun r_5 => bnd (gSl (cellAt cs 6)) fun r_6 => bnd (gSl (cellAt cs 7)) fun r_7 => bnd (gSl (cellAt cs 8)) fun r_8 => bnd (gSl (cellAt cs 9)) fun r_9 => self r r_1 r_2 r_3 r_4 r_5 r_6 r_7 r_8 r_9 i10 i11 (iAdd IntKind.i64 i12 1)) (bnd (rec 9 [MV.agg [MV.sl r0, MV.sl r1, MV.sl r2, MV.sl r3, MV.sl r4, MV.sl r5, MV.sl r6, MV.sl r7, MV.sl r8, MV.sl r9]] []) fun r => bnd (gBool r.1) fun b => br b (br (iEq (nrows r2) i11) (bnd (rowZ 7 r0 i10) fun row => bnd (gInt IntKind.i64 (cellAt row 4)) fun n => br (iEq n i11) (bnd (rec 10 [MV.agg [MV.sl r0, MV.sl r1, MV.sl r2, MV.sl r3, MV.sl r4, MV.sl r5, MV.sl r6, MV.sl r7, MV.sl r8, MV.sl r9]] []) fun r => bnd (gSl r.1) fun r => br (iEq (nrows r) 0) (bnd (rowZ 7 r0 i10) fun row => bnd (gStr (cellAt row 5)) fun s => bnd (rec 11 [MV.agg [MV.sl r0, MV.sl r1, MV.sl r2, MV.sl r3, MV.sl r4, MV.sl r5, MV.sl r6, MV.sl r7, MV.sl r8, MV.sl r9], MV.str s] []) fun r => bnd (gBool r.1) fun b => some (MV.bool (bNot b), [])) (some (MV.bool false, []))) (some (MV.bool false, []))) (some (MV.bool false, []))) (some (MV.bool false, [])))
def P_3_7 (rec : Run) (n : Nat) : List Row → List Row → List Row → List Row → List Row → List Row → List Row → List Row → List Row → List Row → Int → Int → Int → Option Res := Nat.rec (motive := fun _ => List Row → List Row → List Row → List Row → List Row → List Row → List Row → List Row → List Row → List Row → Int → Int → Int → Option Res) (fun _ _ _ _ _ _ _ _ _ _ _ _ _ => none) (fun _ self => B_3_7 rec self) n
theorem p_3_7 (D : Nat) : ∀ (n : Nat) (r0 : List Row) (r1 : List Row) (r2 : List Row) (r3 : List Row) (r4 : List Row) (r5 : List Row) (r6 : List Row) (r7 : List Row) (r8 : List Row) (r9 : List Row) (i10 : Int) (i11 : Int) (i12 : Int), P_3_7 (ev E LL D) n r0 r1 r2 r3 r4 r5 r6 r7 r8 r9 i10 i11 i12 = LP_3_7 LL D n  r0 r1 r2 r3 r4 r5 r6 r7 r8 r9 i10 i11 i12
  | 0, _, _, _, _, _, _, _, _, _, _, _, _, _ => by unfold LP_3_7 lp loopN; rfl
  | n + 1, r0, r1, r2, r3, r4, r5, r6, r7, r8, r9, i10, i11, i12 => by
    have ih : P_3_7 (ev E LL D) n = fun r0 r1 r2 r3 r4 r5 r6 r7 r8 r9 i10 i11 i12 => LP_3_7 LL D n  r0 r1 r2 r3 r4 r5 r6 r7 r8 r9 i10 i11 i12 := by funext r0 r1 r2 r3 r4 r5 r6 r7 r8 r9 i10 i11 i12; exact p_3_7 D n r0 r1 r2 r3 r4 r5 r6 r7 r8 r9 i10 i11 i12
    show B_3_7 (ev E LL D) (P_3_7 (ev E LL D) n) r0 r1 r2 r3 r4 r5 r6 r7 r8 r9 i10 i11 i12 = _
    rw [ih, LP_3_7_succ]
    unfold B_3_7
    rfl
def G_3 (rec : Run) (r1 : List Row) : Option Res := br (iLt 1048576 (nrows r1)) (some (MV.bool true, [])) (br (iEq 8 0) none (bnd (rec 7 [MV.int IntKind.i64 (iRem (nrows r1) 8)] []) fun r => bnd (gAggN 10 r.1) fun cs => bnd (gSl (cellAt cs 0)) fun r => bnd (gSl (cellAt cs 1)) fun r_1 => bnd (gSl (cellAt cs 2)) fun r_2 => bnd (gSl (cellAt cs 3)) fun r_3 => bnd (gSl (cellAt cs 4)) fun r_4 => bnd (gSl (cellAt cs 5)) fun r_5 => bnd (gSl (cellAt cs 6)) fun r_6 => bnd (gSl (cellAt cs 7)) fun r_7 => bnd (gSl (cellAt cs 8)) fun r_8 => bnd (gSl (cellAt cs 9)) fun r_9 => br (iEq 12 0) none (P_3_7 rec LL r r_1 r_2 r_3 r_4 r_5 r_6 r_7 r_8 r_9 (iRem (nrows r1) 8) (iAdd IntKind.i64 1 (iRem (nrows r1) 12)) 0)))
theorem g_3 (D : Nat) (r1 : List Row) : G_3 (ev E LL D) r1 = ev E LL (D + 1) 3 [.sl r1] [] := by
  rw [eq_3]
  unfold G_3
  simp only [p_3_7]
def G_7 (rec : Run) (n1 : Int) : Option Res := bnd (rec 18 [MV.int IntKind.i64 n1] []) fun r => bnd (gBool r.1) fun b => br (bNot b) (some (MV.agg [MV.sl [], MV.sl [], MV.sl [], MV.sl [], MV.sl [], MV.sl [], MV.sl [], MV.sl [], MV.sl [], MV.sl []], [])) (br (bAnd (iEq 8 8) (bAnd (iLe 0 8) (fits 8 0 104))) (br (bAnd (iEq 8 8) (bAnd (iLe 0 8) (fits 8 0 8))) (br (bAnd (iEq 8 8) (bAnd (iLe 0 8) (fits 8 0 8))) (br (bAnd (iEq 8 8) (bAnd (iLe 0 8) (fits 8 0 24))) (bnd (rec 20 [MV.int IntKind.i64 n1, MV.int IntKind.i64 1] []) fun r => bnd (gStr r.1) fun s => bnd (rec 20 [MV.int IntKind.i64 n1, MV.int IntKind.i64 2] []) fun r => bnd (gStr r.1) fun s_1 => bnd (rec 19 [MV.int IntKind.i64 n1, MV.str s, MV.str s_1] []) fun r => bnd (gAggN 7 r.1) fun cs => bnd (gBool (cellAt cs 0)) fun b => bnd (gInt IntKind.i64 (cellAt cs 1)) fun n => bnd (gSl (cellAt cs 2)) fun r => bnd (gSl (cellAt cs 3)) fun r_1 => bnd (gInt IntKind.i64 (cellAt cs 4)) fun n_1 => bnd (gStr (cellAt cs 5)) fun s => bnd (gStr (cellAt cs 6)) fun s_2 => br (iEq (nrows (repR 8 [MV.bool false, MV.int IntKind.i64 0, MV.sl [], MV.sl [], MV.int IntKind.i64 0, MV.str (bs []), MV.str (bs [])])) (nrows (repR 8 [MV.bool false, MV.int IntKind.i64 0, MV.sl [], MV.sl [], MV.int IntKind.i64 0, MV.str (bs []), MV.str (bs [])]))) (bnd (rowZ 7 (repR 8 [MV.bool false, MV.int IntKind.i64 0, MV.sl [], MV.sl [], MV.int IntKind.i64 0, MV.str (bs []), MV.str (bs [])]) n1) fun x => br (iEq (nrows (repR 8 [MV.bool false, MV.int IntKind.i64 0, MV.sl [], MV.sl [], MV.int IntKind.i64 0, MV.str (bs []), MV.str (bs [])])) (nrows (repR 8 [MV.bool false, MV.int IntKind.i64 0, MV.sl [], MV.sl [], MV.int IntKind.i64 0, MV.str (bs []), MV.str (bs [])]))) (bnd (rowAt (repR 8 [MV.bool false, MV.int IntKind.i64 0, MV.sl [], MV.sl [], MV.int IntKind.i64 0, MV.str (bs []), MV.str (bs [])]) n1) fun row => br (iLe 7 (rowLen row)) (br (iEq (nrows (repR 8 [MV.int IntKind.i64 0])) (nrows (repR 8 [MV.int IntKind.i64 0]))) (bnd (rowZ 1 (repR 8 [MV.int IntKind.i64 0]) n1) fun x => br (iEq (nrows (repR 8 [MV.int IntKind.i64 0])) (nrows (repR 8 [MV.int IntKind.i64 0]))) (bnd (rowAt (repR 8 [MV.int IntKind.i64 0]) n1) fun row_1 => br (iLe 1 (rowLen row_1)) (br (iEq (nrows (repR 8 [MV.bool false, MV.int IntKind.i64 0, MV.sl [], MV.sl [], MV.int IntKind.i64 0, MV.str (bs []), MV.str (bs [])])) (nrows (setR (repR 8 [MV.bool false, MV.int IntKind.i64 0, MV.sl [], MV.sl [], MV.int IntKind.i64 0, MV.str (bs []), MV.str (bs [])]) n1 (setRow row 0 [MV.bool b, MV.int IntKind.i64 n, MV.sl r, MV.sl r_1, MV.int IntKind.i64 n_1, MV.str s, MV.str s_2])))) (br (iEq (nrows (repR 8 [MV.int IntKind.i64 0])) (nrows (setR (repR 8 [MV.int IntKind.i64 0]) n1 (setRow row_1 0 [MV.int IntKind.i64 2])))) (br (iEq (nrows (repR 8 [MV.int IntKind.i64 0])) (nrows (repR 8 [MV.int IntKind.i64 0]))) (br (iEq (nrows (repR 8 [MV.sl []])) (nrows (repR 8 [MV.sl []]))) (some (MV.agg [MV.sl (setR (repR 8 [MV.bool false, MV.int IntKind.i64 0, MV.sl [], MV.sl [], MV.int IntKind.i64 0, MV.str (bs []), MV.str (bs [])]) n1 (setRow row 0 [MV.bool b, MV.int IntKind.i64 n, MV.sl r, MV.sl r_1, MV.int IntKind.i64 n_1, MV.str s, MV.str s_2])), MV.sl [], MV.sl [], MV.sl (setR (repR 8 [MV.int IntKind.i64 0]) n1 (setRow row_1 0 [MV.int IntKind.i64 2])), MV.sl [], MV.sl [], MV.sl [], MV.sl (repR 8 [MV.int IntKind.i64 0]), MV.sl (repR 8 [MV.sl []]), MV.sl []], [])) none) none) none) none) none) none) none) none) none) none) none) none) none) none)
theorem g_7 (D : Nat) (n1 : Int) : G_7 (ev E LL D) n1 = ev E LL (D + 1) 7 [.int .i64 n1] [] := by
  rw [eq_7]
  unfold G_7
  rfl
def G_8 (rec : Run) (r1 : List Row) (r2 : List Row) (r3 : List Row) (r4 : List Row) (r5 : List Row) (r6 : List Row) (r7 : List Row) (r8 : List Row) (r9 : List Row) (r10 : List Row) (n11 : Int) (n12 : Int) (n13 : Int) (n14 : Int) (n15 : Int) (s16 : ByteArray) : Option Res := br (iEq (nrows [[MV.int IntKind.i64 n11, MV.int IntKind.i64 n12, MV.int IntKind.i64 n13, MV.int IntKind.i64 n14, MV.int IntKind.i64 n15, MV.str s16]]) (nrows [[MV.int IntKind.i64 n11, MV.int IntKind.i64 n12, MV.int IntKind.i64 n13, MV.int IntKind.i64 n14, MV.int IntKind.i64 n15, MV.str s16]])) (bnd (rec 21 [MV.agg [MV.sl r1, MV.sl r2, MV.sl r3, MV.sl r4, MV.sl r5, MV.sl r6, MV.sl r7, MV.sl r8, MV.sl r9, MV.sl r10], MV.sl [[MV.int IntKind.i64 n11, MV.int IntKind.i64 n12, MV.int IntKind.i64 n13, MV.int IntKind.i64 n14, MV.int IntKind.i64 n15, MV.str s16]]] []) fun r => bnd (gAggN 10 r.1) fun cs => bnd (gSl (cellAt cs 0)) fun r => bnd (gSl (cellAt cs 1)) fun r_1 => bnd (gSl (cellAt cs 2)) fun r_2 => bnd (gSl (cellAt cs 3)) fun r_3 => bnd (gSl (cellAt cs 4)) fun r_4 => bnd (gSl (cellAt cs 5)) fun r_5 => bnd (gSl (cellAt cs 6)) fun r_6 => bnd (gSl (cellAt cs 7)) fun r_7 => bnd (gSl (cellAt cs 8)) fun r_8 => bnd (gSl (cellAt cs 9)) fun r_9 => some (MV.agg [MV.sl r, MV.sl r_1, MV.sl r_2, MV.sl r_3, MV.sl r_4, MV.sl r_5, MV.sl r_6, MV.sl r_7, MV.sl r_8, MV.sl r_9], [])) none
theorem g_8 (D : Nat) (r1 : List Row) (r2 : List Row) (r3 : List Row) (r4 : List Row) (r5 : List Row) (r6 : List Row) (r7 : List Row) (r8 : List Row) (r9 : List Row) (r10 : List Row) (n11 : Int) (n12 : Int) (n13 : Int) (n14 : Int) (n15 : Int) (s16 : ByteArray) : G_8 (ev E LL D) r1 r2 r3 r4 r5 r6 r7 r8 r9 r10 n11 n12 n13 n14 n15 s16 = ev E LL (D + 1) 8 [.agg [.sl r1, .sl r2, .sl r3, .sl r4, .sl r5, .sl r6, .sl r7, .sl r8, .sl r9, .sl r10], .agg [.int .i64 n11, .int .i64 n12, .int .i64 n13, .int .i64 n14, .int .i64 n15, .str s16]] [] := by
  rw [eq_8]
  unfold G_8
  rfl
def B_9_4 (rec : Run) (self : List Row → List Row → List Row → List Row → List Row → List Row → List Row → List Row → List Row → List Row → List Row → Int → Int → Option Res) (r0 : List Row) (r1 : List Row) (r2 : List Row) (r3 : List Row) (r4 : List Row) (r5 : List Row) (r6 : List Row) (r7 : List Row) (r8 : List Row) (r9 : List Row) (r10 : List Row) (i11 : Int) (i12 : Int) : Option Res := br (iLt i12 i11) (bnd (rowZ 7 r10 i12) fun row => bnd (gBool (cellAt row 0)) fun b => bnd (gInt IntKind.i64 (cellAt row 1)) fun n_1 => bnd (gSl (cellAt row 2)) fun r => bnd (gSl (cellAt row 3)) fun r_1 => bnd (gInt IntKind.i64 (cellAt row 4)) fun n_2 => bnd (gStr (cellAt row 5)) fun s => bnd (gStr (cellAt row 6)) fun s_1 => bnd (rec 22 [MV.agg [MV.bool b, MV.int IntKind.i64 n_1, MV.sl r, MV.sl r_1, MV.int IntKind.i64 n_2, MV.str s, MV.str s_1]] []) fun r => bnd (gBool r.1) fun b_1 => br (bNot (bNot b_1)) (br b (br (bNot (iEq n_1 i12)) (some (MV.bool false, [])) (self r0 r1 r2 r3 r4 r5 r6 r7 r8 r9 r10 i11 (iAdd IntKind.i64 i12 1))) (self r0 r1 r2 r3 r4 r5 r6 r7 r8 r9 r10 i11 (iAdd IntKind.i64 i12 1))) (some (MV.bool false, []))) (bnd (rec 23 [MV.sl r3, MV.fn 24 []] []) fun r => bnd (gBool r.1) fun b => br (bNot b) (bnd (rec 23 [MV.sl r7, MV.fn 26 []] []) fun r => bnd (gBool r.1) fun b => br (bNot b) (bnd (rec 27 [MV.sl r8, MV.fn 28 []] []) fun r => bnd (gBool r.1) fun b => br (bNot b) (bnd (rec 30 [MV.sl r2, MV.fn 31 []] []) fun r => bnd (gBool r.1) fun b => br (bNot b) (bnd (rec 33 [MV.sl r1, MV.fn 34 [MV.ptr (H.imp 0) 0]] [Obj.cells [MV.sl r0, MV.sl r1, MV.sl r2, MV.sl r3, MV.sl r4, MV.sl r5, MV.sl r6, MV.sl r7, MV.sl r8, MV.sl r9]]) fun r => bnd (gCellsN 10 (hdO r.2)) fun ns => bnd (gSl (cellAt ns 0)) fun s => bnd (gSl (cellAt ns 1)) fun s_1 => bnd (gSl (cellAt ns 2)) fun s_2 => bnd (gSl (cellAt ns 3)) fun s_3 => bnd (gSl (cellAt ns 4)) fun s_4 => bnd (gSl (cellAt ns 5)) fun s_5 => bnd (gSl (cellAt ns 6)) fun s_6 => bnd (gSl (cellAt ns 7)) fun s_7 => bnd (gSl (cellAt ns 8)) fun s_8 => bnd (gSl (cellAt ns 9)) fun s_9 => bnd (gBool r.1) fun b => br (bNot b) (bnd (rec 36 [MV.sl s_4, MV.fn 37 []] []) fun r => bnd (gBool r.1) fun b => br (bNot b) (bnd (rec 38 [MV.sl s_5, MV.fn 39 []] []) fun r => bnd (gBool r.1) fun b => br (bNot b) (bnd (rec 40 [MV.sl s_6, MV.fn 41 []] []) fun r => bnd (gBool r.1) fun b => br (bNot b) (bnd (rec 43 [MV.sl s_9, MV.fn 44 [MV.ptr (H.imp 0) 0]] [Obj.cells [MV.sl s, MV.sl s_1, MV.sl s_2, MV.sl s_3, MV.sl s_4, MV.sl s_5, MV.sl s_6, MV.sl s_7, MV.sl s_8, MV.sl s_9]]) fun r => bnd (gCellsN 10 (hdO r.2)) fun ns => bnd (gSl (cellAt ns 0)) fun s => bnd (gSl (cellAt ns 1)) fun s => bnd (gSl (cellAt ns 2)) fun s => bnd (gSl (cellAt ns 3)) fun s => bnd (gSl (cellAt ns 4)) fun s => bnd (gSl (cellAt ns 5)) fun s => bnd (gSl (cellAt ns 6)) fun s => bnd (gSl (cellAt ns 7)) fun s => bnd (gSl (cellAt ns 8)) fun s => bnd (gSl (cellAt ns 9)) fun s => bnd (gBool r.1) fun b => some (MV.bool (bNot b), [])) (some (MV.bool false, []))) (some (MV.bool false, []))) (some (MV.bool false, []))) (some (MV.bool false, []))) (some (MV.bool false, []))) (some (MV.bool false, []))) (some (MV.bool false, []))) (some (MV.bool false, [])))
def P_9_4 (rec : Run) (n : Nat) : List Row → List Row → List Row → List Row → List Row → List Row → List Row → List Row → List Row → List Row → List Row → Int → Int → Option Res := Nat.rec (motive := fun _ => List Row → List Row → List Row → List Row → List Row → List Row → List Row → List Row → List Row → List Row → List Row → Int → Int → Option Res) (fun _ _ _ _ _ _ _ _ _ _ _ _ _ => none) (fun _ self => B_9_4 rec self) n
theorem p_9_4 (D : Nat) : ∀ (n : Nat) (r0 : List Row) (r1 : List Row) (r2 : List Row) (r3 : List Row) (r4 : List Row) (r5 : List Row) (r6 : List Row) (r7 : List Row) (r8 : List Row) (r9 : List Row) (r10 : List Row) (i11 : Int) (i12 : Int), P_9_4 (ev E LL D) n r0 r1 r2 r3 r4 r5 r6 r7 r8 r9 r10 i11 i12 = LP_9_4 LL D n  r0 r1 r2 r3 r4 r5 r6 r7 r8 r9 r10 i11 i12
  | 0, _, _, _, _, _, _, _, _, _, _, _, _, _ => by unfold LP_9_4 lp loopN; rfl
  | n + 1, r0, r1, r2, r3, r4, r5, r6, r7, r8, r9, r10, i11, i12 => by
    have ih : P_9_4 (ev E LL D) n = fun r0 r1 r2 r3 r4 r5 r6 r7 r8 r9 r10 i11 i12 => LP_9_4 LL D n  r0 r1 r2 r3 r4 r5 r6 r7 r8 r9 r10 i11 i12 := by funext r0 r1 r2 r3 r4 r5 r6 r7 r8 r9 r10 i11 i12; exact p_9_4 D n r0 r1 r2 r3 r4 r5 r6 r7 r8 r9 r10 i11 i12
    show B_9_4 (ev E LL D) (P_9_4 (ev E LL D) n) r0 r1 r2 r3 r4 r5 r6 r7 r8 r9 r10 i11 i12 = _
    rw [ih, LP_9_4_succ]
    unfold B_9_4
    rfl
def G_9 (rec : Run) (r1 : List Row) (r2 : List Row) (r3 : List Row) (r4 : List Row) (r5 : List Row) (r6 : List Row) (r7 : List Row) (r8 : List Row) (r9 : List Row) (r10 : List Row) : Option Res := br (bNot (bNot (iEq (nrows r1) 8))) (br (bNot (bNot (iEq (nrows r4) 8))) (br (bNot (bNot (iEq (nrows r8) 8))) (br (bNot (bNot (iEq (nrows r9) 8))) (br (bNot (iLt 16 (nrows r3))) (br (bNot (iLt 16 (nrows r2))) (br (bNot (iLt 40 (nrows r7))) (br (bNot (iLt 12 (nrows r6))) (br (bNot (iLt 72 (nrows r5))) (br (iLt 320 (nrows r10)) (some (MV.bool false, [])) (P_9_4 rec LL r1 r2 r3 r4 r5 r6 r7 r8 r9 r10 r1 (nrows r1) 0)) (some (MV.bool false, []))) (some (MV.bool false, []))) (some (MV.bool false, []))) (some (MV.bool false, []))) (some (MV.bool false, []))) (some (MV.bool false, []))) (some (MV.bool false, []))) (some (MV.bool false, []))) (some (MV.bool false, []))
theorem g_9 (D : Nat) (r1 : List Row) (r2 : List Row) (r3 : List Row) (r4 : List Row) (r5 : List Row) (r6 : List Row) (r7 : List Row) (r8 : List Row) (r9 : List Row) (r10 : List Row) : G_9 (ev E LL D) r1 r2 r3 r4 r5 r6 r7 r8 r9 r10 = ev E LL (D + 1) 9 [.agg [.sl r1, .sl r2, .sl r3, .sl r4, .sl r5, .sl r6, .sl r7, .sl r8, .sl r9, .sl r10]] [] := by
  rw [eq_9]
  unfold G_9
  simp only [p_9_4]
def B_10_3 (rec : Run) (self : List Row → Int → List Row → Int → Int → Option Res) (r0 : List Row) (i1 : Int) (r2 : List Row) (i3 : Int) (i4 : Int) : Option Res := br (iLt i4 i3) (bnd (rowZ 13 r2 i4) fun row => bnd (gInt IntKind.i64 (cellAt row 0)) fun n_1 => bnd (gStr (cellAt row 1)) fun s => bnd (gStr (cellAt row 2)) fun s => bnd (gInt IntKind.i64 (cellAt row 3)) fun n_2 => bnd (gInt IntKind.i64 (cellAt row 4)) fun n_3 => bnd (gStr (cellAt row 5)) fun s => bnd (gSl (cellAt row 6)) fun r => bnd (gSl (cellAt row 7)) fun r => bnd (gStr (cellAt row 8)) fun s => bnd (gStr (cellAt row 9)) fun s => bnd (gStr (cellAt row 10)) fun s_1 => bnd (gStr (cellAt row 11)) fun s_2 => bnd (gStr (cellAt row 12)) fun s_3 => br (bAnd (iEq i1 (nrows r0)) (bAnd (okR 2 r0) (bAnd (okR 2 r) (fits (nrows r0) (nrows r) 32)))) (br (iLe 0 n_2) (br (iEq (nrows [[MV.str s, MV.str s_1], [MV.str s_2, MV.str s_3]]) (nrows [[MV.str s, MV.str s_1], [MV.str s_2, MV.str s_3]])) (br (bAnd (iEq (nrows (catR r0 r)) (nrows (catR r0 r))) (bAnd (okR 2 (catR r0 r)) (bAnd (okR 2 [[MV.str s, MV.str s_1], [MV.str s_2, MV.str s_3]]) (fits (nrows (catR r0 r)) (nrows [[MV.str s, MV.str s_1], [MV.str s_2, MV.str s_3]]) 32)))) (self (catR (catR r0 r) [[MV.str s, MV.str s_1], [MV.str s_2, MV.str s_3]]) (nrows (catR (catR r0 r) [[MV.str s, MV.str s_1], [MV.str s_2, MV.str s_3]])) r2 i3 (iAdd IntKind.i64 i4 1)) none) none) (self (catR r0 r) (nrows (catR r0 r)) r2 i3 (iAdd IntKind.i64 i4 1))) none) (br (iEq i1 (nrows r0)) (bnd (rec 45 [MV.sl r0] []) fun r => bnd (gOwn r.1) fun r => br (iEq (nrows r) (nrows r)) (some (MV.sl r, [])) none) none)
def P_10_3 (rec : Run) (n : Nat) : List Row → Int → List Row → Int → Int → Option Res := Nat.rec (motive := fun _ => List Row → Int → List Row → Int → Int → Option Res) (fun _ _ _ _ _ => none) (fun _ self => B_10_3 rec self) n
theorem p_10_3 (D : Nat) : ∀ (n : Nat) (r0 : List Row) (i1 : Int) (r2 : List Row) (i3 : Int) (i4 : Int), P_10_3 (ev E LL D) n r0 i1 r2 i3 i4 = LP_10_3 LL D n  r0 i1 r2 i3 i4
  | 0, _, _, _, _, _ => by unfold LP_10_3 lp loopN; rfl
  | n + 1, r0, i1, r2, i3, i4 => by
    have ih : P_10_3 (ev E LL D) n = fun r0 i1 r2 i3 i4 => LP_10_3 LL D n  r0 i1 r2 i3 i4 := by funext r0 i1 r2 i3 i4; exact p_10_3 D n r0 i1 r2 i3 i4
    show B_10_3 (ev E LL D) (P_10_3 (ev E LL D) n) r0 i1 r2 i3 i4 = _
    rw [ih, LP_10_3_succ]
    unfold B_10_3
    rfl
def G_10 (rec : Run) (r1 : List Row) (r2 : List Row) (r3 : List Row) (r4 : List Row) (r5 : List Row) (r6 : List Row) (r7 : List Row) (r8 : List Row) (r9 : List Row) (r10 : List Row) : Option Res := P_10_3 rec LL [] (nrows []) r3 (nrows r3) 0
theorem g_10 (D : Nat) (r1 : List Row) (r2 : List Row) (r3 : List Row) (r4 : List Row) (r5 : List Row) (r6 : List Row) (r7 : List Row) (r8 : List Row) (r9 : List Row) (r10 : List Row) : G_10 (ev E LL D) r1 r2 r3 r4 r5 r6 r7 r8 r9 r10 = ev E LL (D + 1) 10 [.agg [.sl r1, .sl r2, .sl r3, .sl r4, .sl r5, .sl r6, .sl r7, .sl r8, .sl r9, .sl r10]] [] := by
  rw [eq_10]
  unfold G_10
  simp only [p_10_3]
def G_11 (rec : Run) (r1 : List Row) (r2 : List Row) (r3 : List Row) (r4 : List Row) (r5 : List Row) (r6 : List Row) (r7 : List Row) (r8 : List Row) (r9 : List Row) (r10 : List Row) (s11 : ByteArray) : Option Res := bnd (rec 9 [MV.agg [MV.sl r1, MV.sl r2, MV.sl r3, MV.sl r4, MV.sl r5, MV.sl r6, MV.sl r7, MV.sl r8, MV.sl r9, MV.sl r10]] []) fun r => bnd (gBool r.1) fun b => br b (bnd (rec 10 [MV.agg [MV.sl r1, MV.sl r2, MV.sl r3, MV.sl r4, MV.sl r5, MV.sl r6, MV.sl r7, MV.sl r8, MV.sl r9, MV.sl r10]] []) fun r => bnd (gSl r.1) fun r => bnd (rec 16 [MV.sl r5, MV.sl r, MV.str s11] []) fun r => bnd (gBool r.1) fun b => some (MV.bool b, [])) (some (MV.bool false, []))
theorem g_11 (D : Nat) (r1 : List Row) (r2 : List Row) (r3 : List Row) (r4 : List Row) (r5 : List Row) (r6 : List Row) (r7 : List Row) (r8 : List Row) (r9 : List Row) (r10 : List Row) (s11 : ByteArray) : G_11 (ev E LL D) r1 r2 r3 r4 r5 r6 r7 r8 r9 r10 s11 = ev E LL (D + 1) 11 [.agg [.sl r1, .sl r2, .sl r3, .sl r4, .sl r5, .sl r6, .sl r7, .sl r8, .sl r9, .sl r10], .str s11] [] := by
  rw [eq_11]
  unfold G_11
  rfl
def G_16 (rec : Run) (r1 : List Row) (r2 : List Row) (s3 : ByteArray) : Option Res := bnd (rec 49 [MV.sl r1, MV.sl r2] []) fun r => bnd (gBool r.1) fun b => br b (bnd (rec 35 [MV.str s3] []) fun r => bnd (gBool r.1) fun b => br b (bnd (rec 51 [MV.sl r1, MV.sl r2] []) fun r => bnd (gSl r.1) fun r => bnd (rec 50 [MV.sl r] []) fun r => bnd (newM 0 r.1) fun x => bnd (gMap (nthO r.2 0)) fun es => bnd (rec 52 [MV.mapr (H.imp 0), MV.str s3] [Obj.map es]) fun r => bnd (gMap (hdO r.2)) fun es => bnd (gBool r.1) fun b => some (MV.bool b, [])) (some (MV.bool false, []))) (some (MV.bool false, []))
theorem g_16 (D : Nat) (r1 : List Row) (r2 : List Row) (s3 : ByteArray) : G_16 (ev E LL D) r1 r2 s3 = ev E LL (D + 1) 16 [.sl r1, .sl r2, .str s3] [] := by
  rw [eq_16]
  unfold G_16
  rfl
def G_18 (rec : Run) (n1 : Int) : Option Res := bnd (rec 25 [MV.int IntKind.i64 n1, MV.int IntKind.i64 0, MV.int IntKind.i64 7] []) fun r => bnd (gBool r.1) fun b => some (MV.bool b, [])
theorem g_18 (D : Nat) (n1 : Int) : G_18 (ev E LL D) n1 = ev E LL (D + 1) 18 [.int .i64 n1] [] := by
  rw [eq_18]
  unfold G_18
  rfl
def G_19 (rec : Run) (n1 : Int) (s2 : ByteArray) (s3 : ByteArray) : Option Res := bnd (rec 18 [MV.int IntKind.i64 n1] []) fun r => bnd (gBool r.1) fun b => br (bNot (bNot b)) (bnd (rec 56 [MV.str s2] []) fun r => bnd (gBool r.1) fun b => br (bNot (bNot b)) (bnd (rec 35 [MV.str s3] []) fun r => bnd (gBool r.1) fun b => br (bNot b) (some (MV.agg [MV.bool false, MV.int IntKind.i64 0, MV.sl [], MV.sl [], MV.int IntKind.i64 0, MV.str (bs []), MV.str (bs [])], [])) (bnd (rec 57 [] []) fun r => bnd (gAggN 1 r.1) fun cs => bnd (gOwn (cellAt cs 0)) fun r => br (iEq (nrows r) (nrows r)) (bnd (rec 58 [MV.agg [MV.sl r], MV.int IntKind.i64 n1, MV.str s2] []) fun r => bnd (gAggN 1 r.1) fun cs => bnd (gOwn (cellAt cs 0)) fun r => bnd (rec 60 [MV.int IntKind.i64 n1] []) fun r_1 => bnd (gSl r_1.1) fun r_2 => bnd (rec 59 [MV.sl r_2, MV.str s2] []) fun r_3 => bnd (gSl r_3.1) fun r_4 => br (iEq (nrows r) (nrows r)) (some (MV.agg [MV.bool true, MV.int IntKind.i64 n1, MV.sl r, MV.sl r_4, MV.int IntKind.i64 0, MV.str s3, MV.str (bs [])], [])) none) none)) (some (MV.agg [MV.bool false, MV.int IntKind.i64 0, MV.sl [], MV.sl [], MV.int IntKind.i64 0, MV.str (bs []), MV.str (bs [])], []))) (some (MV.agg [MV.bool false, MV.int IntKind.i64 0, MV.sl [], MV.sl [], MV.int IntKind.i64 0, MV.str (bs []), MV.str (bs [])], []))
theorem g_19 (D : Nat) (n1 : Int) (s2 : ByteArray) (s3 : ByteArray) : G_19 (ev E LL D) n1 s2 s3 = ev E LL (D + 1) 19 [.int .i64 n1, .str s2, .str s3] [] := by
  rw [eq_19]
  unfold G_19
  rfl
def G_20 (rec : Run) (n1 : Int) (n2 : Int) : Option Res := bnd (rec 18 [MV.int IntKind.i64 n1] []) fun r => bnd (gBool r.1) fun b => br (bNot (bNot b)) (bnd (rec 25 [MV.int IntKind.i64 n2, MV.int IntKind.i64 1, MV.int IntKind.i64 99] []) fun r => bnd (gBool r.1) fun b => br (bNot b) (some (MV.str (bs []), [])) (bnd (rec 61 [MV.int IntKind.i64 n1] []) fun r => bnd (gStr r.1) fun s => bnd (rec 62 [MV.int IntKind.i64 n2] []) fun r => bnd (gStr r.1) fun s_1 => br (fits (sLen s) (sLen s_1) 1) (br (fits (sLen (kCat s s_1)) (sLen (bs [59])) 1) (some (MV.str (kCat (kCat s s_1) (bs [59])), [])) none) none)) (some (MV.str (bs []), []))
theorem g_20 (D : Nat) (n1 : Int) (n2 : Int) : G_20 (ev E LL D) n1 n2 = ev E LL (D + 1) 20 [.int .i64 n1, .int .i64 n2] [] := by
  rw [eq_20]
  unfold G_20
  simp only [kCat_eq]
def B_21_5 (rec : Run) (self : List Row → List Row → List Row → List Row → List Row → List Row → List Row → List Row → List Row → List Row → List Row → List Row → List Row → List Row → List Row → List Row → List Row → List Row → List Row → List Row → Int → Int → Int → Int → Int → Int → Int → Int → Int → Int → Int → Int → Int → Int → Int → Int → Int → Int → Int → Int → List Row → Int → Int → Option Res) (r0 : List Row) (r1 : List Row) (r2 : List Row) (r3 : List Row) (r4 : List Row) (r5 : List Row) (r6 : List Row) (r7 : List Row) (r8 : List Row) (r9 : List Row) (r10 : List Row) (r11 : List Row) (r12 : List Row) (r13 : List Row) (r14 : List Row) (r15 : List Row) (r16 : List Row) (r17 : List Row) (r18 : List Row) (r19 : List Row) (i20 : Int) (i21 : Int) (i22 : Int) (i23 : Int) (i24 : Int) (i25 : Int) (i26 : Int) (i27 : Int) (i28 : Int) (i29 : Int) (i30 : Int) (i31 : Int) (i32 : Int) (i33 : Int) (i34 : Int) (i35 : Int) (i36 : Int) (i37 : Int) (i38 : Int) (i39 : Int) (r40 : List Row) (i41 : Int) (i42 : Int) : Option Res := br (iLt i42 i41) (bnd (rowZ 6 r40 i42) fun row => bnd (gInt IntKind.i64 (cellAt row 0)) fun n_1 => bnd (gInt IntKind.i64 (cellAt row 1)) fun n_2 => bnd (gInt IntKind.i64 (cellAt row 2)) fun n_3 => bnd (gInt IntKind.i64 (cellAt row 3)) fun n_4 => bnd (gInt IntKind.i64 (cellAt row 4)) fun n_5 => bnd (gStr (cellAt row 5)) fun s => br (iEq i30 (nrows r10)) (br (iEq i31 (nrows r19)) (br (iEq i32 (nrows r11)) (br (iEq i33 (nrows r12)) (br (iEq i34 (nrows r13)) (br (iEq i35 (nrows r14)) (br (iEq i36 (nrows r15)) (br (iEq i37 (nrows r16)) (br (iEq i38 (nrows r17)) (br (iEq i39 (nrows r18)) (bnd (rec 48 [MV.ptr (H.imp 0) 0, MV.agg [MV.int IntKind.i64 n_1, MV.int IntKind.i64 n_2, MV.int IntKind.i64 n_3, MV.int IntKind.i64 n_4, MV.int IntKind.i64 n_5, MV.str s]] [Obj.cells [MV.own r10, MV.ownK r19, MV.own r11, MV.own r12, MV.own r13, MV.own r14, MV.own r15, MV.own r16, MV.own r17, MV.own r18]]) fun r => bnd (gCellsN 10 (hdO r.2)) fun ns => bnd (gOwn (cellAt ns 0)) fun s => bnd (gOwnK (cellAt ns 1)) fun s_1 => bnd (gOwn (cellAt ns 2)) fun s_2 => bnd (gOwn (cellAt ns 3)) fun s_3 => bnd (gOwn (cellAt ns 4)) fun s_4 => bnd (gOwn (cellAt ns 5)) fun s_5 => bnd (gOwn (cellAt ns 6)) fun s_6 => bnd (gOwn (cellAt ns 7)) fun s_7 => bnd (gOwn (cellAt ns 8)) fun s_8 => bnd (gOwn (cellAt ns 9)) fun s_9 => bnd (gTupN 0 r.1) fun vs => self r0 r1 r2 r3 r4 r5 r6 r7 r8 r9 s s_2 s_3 s_4 s_5 s_6 s_7 s_8 s_9 s_1 i20 i21 i22 i23 i24 i25 i26 i27 i28 i29 (nrows s) (nrows s_1) (nrows s_2) (nrows s_3) (nrows s_4) (nrows s_5) (nrows s_6) (nrows s_7) (nrows s_8) (nrows s_9) r40 i41 (iAdd IntKind.i64 i42 1)) none) none) none) none) none) none) none) none) none) none) (br (iEq i30 (nrows r10)) (br (iEq i31 (nrows r19)) (br (iEq i32 (nrows r11)) (br (iEq i33 (nrows r12)) (br (iEq i34 (nrows r13)) (br (iEq i35 (nrows r14)) (br (iEq i36 (nrows r15)) (br (iEq i37 (nrows r16)) (br (iEq i38 (nrows r17)) (br (iEq i39 (nrows r18)) (bnd (rec 47 [MV.agg [MV.sl r10, MV.sl r19, MV.sl r11, MV.sl r12, MV.sl r13, MV.sl r14, MV.sl r15, MV.sl r16, MV.sl r17, MV.sl r18]] []) fun r => bnd (gAggN 10 r.1) fun cs => bnd (gOwn (cellAt cs 0)) fun r => bnd (gOwn (cellAt cs 1)) fun r_1 => bnd (gOwn (cellAt cs 2)) fun r_2 => bnd (gOwn (cellAt cs 3)) fun r_3 => bnd (gOwn (cellAt cs 4)) fun r_4 => bnd (gOwn (cellAt cs 5)) fun r_5 => bnd (gOwn (cellAt cs 6)) fun r_6 => bnd (gOwn (cellAt cs 7)) fun r_7 => bnd (gOwn (cellAt cs 8)) fun r_8 => bnd (gOwn (cellAt cs 9)) fun r_9 => br (iEq (nrows r) (nrows r)) (br (iEq (nrows r_1) (nrows r_1)) (br (iEq (nrows r_2) (nrows r_2)) (br (iEq (nrows r_3) (nrows r_3)) (br (iEq (nrows r_4) (nrows r_4)) (br (iEq (nrows r_5) (nrows r_5)) (br (iEq (nrows r_6) (nrows r_6)) (br (iEq (nrows r_7) (nrows r_7)) (br (iEq (nrows r_8) (nrows r_8)) (br (iEq (nrows r_9) (nrows r_9)) (some (MV.agg [MV.sl r, MV.sl r_1, MV.sl r_2, MV.sl r_3, MV.sl r_4, MV.sl r_5, MV.sl r_6, MV.sl r_7, MV.sl r_8, MV.sl r_9], [])) none) none) none) none) none) none) none) none) none) none) none) none) none) none) none) none) none) none) none) none)
def P_21_5 (rec : Run) (n : Nat) : List Row → List Row → List Row → List Row → List Row → List Row → List Row → List Row → List Row → List Row → List Row → List Row → List Row → List Row → List Row → List Row → List Row → List Row → List Row → List Row → Int → Int → Int → Int → Int → Int → Int → Int → Int → Int → Int → Int → Int → Int → Int → Int → Int → Int → Int → Int → List Row → Int → Int → Option Res := Nat.rec (motive := fun _ => List Row → List Row → List Row → List Row → List Row → List Row → List Row → List Row → List Row → List Row → List Row → List Row → List Row → List Row → List Row → List Row → List Row → List Row → List Row → List Row → Int → Int → Int → Int → Int → Int → Int → Int → Int → Int → Int → Int → Int → Int → Int → Int → Int → Int → Int → Int → List Row → Int → Int → Option Res) (fun _ _ _ _ _ _ _ _ _ _ _ _ _ _ _ _ _ _ _ _ _ _ _ _ _ _ _ _ _ _ _ _ _ _ _ _ _ _ _ _ _ _ _ => none) (fun _ self => B_21_5 rec self) n
theorem p_21_5 (D : Nat) : ∀ (n : Nat) (r0 : List Row) (r1 : List Row) (r2 : List Row) (r3 : List Row) (r4 : List Row) (r5 : List Row) (r6 : List Row) (r7 : List Row) (r8 : List Row) (r9 : List Row) (r10 : List Row) (r11 : List Row) (r12 : List Row) (r13 : List Row) (r14 : List Row) (r15 : List Row) (r16 : List Row) (r17 : List Row) (r18 : List Row) (r19 : List Row) (i20 : Int) (i21 : Int) (i22 : Int) (i23 : Int) (i24 : Int) (i25 : Int) (i26 : Int) (i27 : Int) (i28 : Int) (i29 : Int) (i30 : Int) (i31 : Int) (i32 : Int) (i33 : Int) (i34 : Int) (i35 : Int) (i36 : Int) (i37 : Int) (i38 : Int) (i39 : Int) (r40 : List Row) (i41 : Int) (i42 : Int), P_21_5 (ev E LL D) n r0 r1 r2 r3 r4 r5 r6 r7 r8 r9 r10 r11 r12 r13 r14 r15 r16 r17 r18 r19 i20 i21 i22 i23 i24 i25 i26 i27 i28 i29 i30 i31 i32 i33 i34 i35 i36 i37 i38 i39 r40 i41 i42 = LP_21_5 LL D n  r0 r1 r2 r3 r4 r5 r6 r7 r8 r9 r10 r11 r12 r13 r14 r15 r16 r17 r18 r19 i20 i21 i22 i23 i24 i25 i26 i27 i28 i29 i30 i31 i32 i33 i34 i35 i36 i37 i38 i39 r40 i41 i42
  | 0, _, _, _, _, _, _, _, _, _, _, _, _, _, _, _, _, _, _, _, _, _, _, _, _, _, _, _, _, _, _, _, _, _, _, _, _, _, _, _, _, _, _, _ => by unfold LP_21_5 lp loopN; rfl
  | n + 1, r0, r1, r2, r3, r4, r5, r6, r7, r8, r9, r10, r11, r12, r13, r14, r15, r16, r17, r18, r19, i20, i21, i22, i23, i24, i25, i26, i27, i28, i29, i30, i31, i32, i33, i34, i35, i36, i37, i38, i39, r40, i41, i42 => by
    have ih : P_21_5 (ev E LL D) n = fun r0 r1 r2 r3 r4 r5 r6 r7 r8 r9 r10 r11 r12 r13 r14 r15 r16 r17 r18 r19 i20 i21 i22 i23 i24 i25 i26 i27 i28 i29 i30 i31 i32 i33 i34 i35 i36 i37 i38 i39 r40 i41 i42 => LP_21_5 LL D n  r0 r1 r2 r3 r4 r5 r6 r7 r8 r9 r10 r11 r12 r13 r14 r15 r16 r17 r18 r19 i20 i21 i22 i23 i24 i25 i26 i27 i28 i29 i30 i31 i32 i33 i34 i35 i36 i37 i38 i39 r40 i41 i42 := by funext r0 r1 r2 r3 r4 r5 r6 r7 r8 r9 r10 r11 r12 r13 r14 r15 r16 r17 r18 r19 i20 i21 i22 i23 i24 i25 i26 i27 i28 i29 i30 i31 i32 i33 i34 i35 i36 i37 i38 i39 r40 i41 i42; exact p_21_5 D n r0 r1 r2 r3 r4 r5 r6 r7 r8 r9 r10 r11 r12 r13 r14 r15 r16 r17 r18 r19 i20 i21 i22 i23 i24 i25 i26 i27 i28 i29 i30 i31 i32 i33 i34 i35 i36 i37 i38 i39 r40 i41 i42
    show B_21_5 (ev E LL D) (P_21_5 (ev E LL D) n) r0 r1 r2 r3 r4 r5 r6 r7 r8 r9 r10 r11 r12 r13 r14 r15 r16 r17 r18 r19 i20 i21 i22 i23 i24 i25 i26 i27 i28 i29 i30 i31 i32 i33 i34 i35 i36 i37 i38 i39 r40 i41 i42 = _
    rw [ih, LP_21_5_succ]
    unfold B_21_5
    rfl
def G_21 (rec : Run) (r1 : List Row) (r2 : List Row) (r3 : List Row) (r4 : List Row) (r5 : List Row) (r6 : List Row) (r7 : List Row) (r8 : List Row) (r9 : List Row) (r10 : List Row) (r11 : List Row) : Option Res := bnd (rec 9 [MV.agg [MV.sl r1, MV.sl r2, MV.sl r3, MV.sl r4, MV.sl r5, MV.sl r6, MV.sl r7, MV.sl r8, MV.sl r9, MV.sl r10]] []) fun r => bnd (gBool r.1) fun b => br (bNot (bNot b)) (br (iLt 200 (nrows r11)) (some (MV.agg [MV.sl [], MV.sl [], MV.sl [], MV.sl [], MV.sl [], MV.sl [], MV.sl [], MV.sl [], MV.sl [], MV.sl []], [])) (bnd (rec 47 [MV.agg [MV.sl r1, MV.sl r2, MV.sl r3, MV.sl r4, MV.sl r5, MV.sl r6, MV.sl r7, MV.sl r8, MV.sl r9, MV.sl r10]] []) fun r => bnd (gAggN 10 r.1) fun cs => bnd (gOwn (cellAt cs 0)) fun r => bnd (gOwn (cellAt cs 1)) fun r_1 => bnd (gOwn (cellAt cs 2)) fun r_2 => bnd (gOwn (cellAt cs 3)) fun r_3 => bnd (gOwn (cellAt cs 4)) fun r_4 => bnd (gOwn (cellAt cs 5)) fun r_5 => bnd (gOwn (cellAt cs 6)) fun r_6 => bnd (gOwn (cellAt cs 7)) fun r_7 => bnd (gOwn (cellAt cs 8)) fun r_8 => bnd (gOwn (cellAt cs 9)) fun r_9 => P_21_5 rec LL [] [] [] [] [] [] [] [] [] [] r r_2 r_3 r_4 r_5 r_6 r_7 r_8 r_9 r_1 (nrows []) (nrows []) (nrows []) (nrows []) (nrows []) (nrows []) (nrows []) (nrows []) (nrows []) (nrows []) (nrows r) (nrows r_1) (nrows r_2) (nrows r_3) (nrows r_4) (nrows r_5) (nrows r_6) (nrows r_7) (nrows r_8) (nrows r_9) r11 (nrows r11) 0)) (some (MV.agg [MV.sl [], MV.sl [], MV.sl [], MV.sl [], MV.sl [], MV.sl [], MV.sl [], MV.sl [], MV.sl [], MV.sl []], []))
theorem g_21 (D : Nat) (r1 : List Row) (r2 : List Row) (r3 : List Row) (r4 : List Row) (r5 : List Row) (r6 : List Row) (r7 : List Row) (r8 : List Row) (r9 : List Row) (r10 : List Row) (r11 : List Row) : G_21 (ev E LL D) r1 r2 r3 r4 r5 r6 r7 r8 r9 r10 r11 = ev E LL (D + 1) 21 [.agg [.sl r1, .sl r2, .sl r3, .sl r4, .sl r5, .sl r6, .sl r7, .sl r8, .sl r9, .sl r10], .sl r11] [] := by
  rw [eq_21]
  unfold G_21
  simp only [p_21_5]
def B_22_7 (rec : Run) (self : Bool → Int → List Row → List Row → Int → ByteArray → ByteArray → Int → List Row → Int → Int → Option Res) (b0 : Bool) (i1 : Int) (r2 : List Row) (r3 : List Row) (i4 : Int) (s5 : ByteArray) (s6 : ByteArray) (i7 : Int) (r8 : List Row) (i9 : Int) (i10 : Int) : Option Res := br (iLt i10 i9) (bnd (rowZ 1 r8 i10) fun row => bnd (gInt IntKind.i64 (cellAt row 0)) fun n_1 => bnd (rowZ 1 r2 n_1) fun row => bnd (gStr (cellAt row 0)) fun s => br (kEq s (bs [])) (self b0 i1 r2 r3 i4 s5 s6 i7 r8 i9 (iAdd IntKind.i64 i10 1)) (bnd (rec 65 [MV.sl r3, MV.int IntKind.i64 n_1] []) fun r => bnd (gInt IntKind.i64 r.1) fun n_2 => br (bNot (iLt n_2 0)) (bnd (rowZ 2 r3 n_2) fun row => bnd (gStr (cellAt row 1)) fun s => bnd (rec 66 [MV.str s] []) fun r => bnd (gStr r.1) fun s => bnd (rowZ 1 r2 n_1) fun row => bnd (gStr (cellAt row 0)) fun s_1 => br (bNot (kEq s s_1)) (some (MV.bool false, [])) (self b0 i1 r2 r3 i4 s5 s6 (iAdd IntKind.i64 i7 1) r8 i9 (iAdd IntKind.i64 i10 1))) (some (MV.bool false, [])))) (some (MV.bool (iEq i7 (nrows r3)), []))
def P_22_7 (rec : Run) (n : Nat) : Bool → Int → List Row → List Row → Int → ByteArray → ByteArray → Int → List Row → Int → Int → Option Res := Nat.rec (motive := fun _ => Bool → Int → List Row → List Row → Int → ByteArray → ByteArray → Int → List Row → Int → Int → Option Res) (fun _ _ _ _ _ _ _ _ _ _ _ => none) (fun _ self => B_22_7 rec self) n
theorem p_22_7 (D : Nat) : ∀ (n : Nat) (b0 : Bool) (i1 : Int) (r2 : List Row) (r3 : List Row) (i4 : Int) (s5 : ByteArray) (s6 : ByteArray) (i7 : Int) (r8 : List Row) (i9 : Int) (i10 : Int), P_22_7 (ev E LL D) n b0 i1 r2 r3 i4 s5 s6 i7 r8 i9 i10 = LP_22_7 LL D n  b0 i1 r2 r3 i4 s5 s6 i7 r8 i9 i10
  | 0, _, _, _, _, _, _, _, _, _, _, _ => by unfold LP_22_7 lp loopN; rfl
  | n + 1, b0, i1, r2, r3, i4, s5, s6, i7, r8, i9, i10 => by
    have ih : P_22_7 (ev E LL D) n = fun b0 i1 r2 r3 i4 s5 s6 i7 r8 i9 i10 => LP_22_7 LL D n  b0 i1 r2 r3 i4 s5 s6 i7 r8 i9 i10 := by funext b0 i1 r2 r3 i4 s5 s6 i7 r8 i9 i10; exact p_22_7 D n b0 i1 r2 r3 i4 s5 s6 i7 r8 i9 i10
    show B_22_7 (ev E LL D) (P_22_7 (ev E LL D) n) b0 i1 r2 r3 i4 s5 s6 i7 r8 i9 i10 = _
    rw [ih, LP_22_7_succ]
    unfold B_22_7
    simp only [kEq_eq]
def G_22 (rec : Run) (b1 : Bool) (n2 : Int) (r3 : List Row) (r4 : List Row) (n5 : Int) (s6 : ByteArray) (s7 : ByteArray) : Option Res := br (bNot b1) (br (iEq n2 0) (br (iEq (nrows r3) 0) (br (iEq (nrows r4) 0) (br (iEq n5 0) (br (kEq s6 (bs [])) (some (MV.bool (kEq s7 (bs [])), [])) (some (MV.bool false, []))) (some (MV.bool false, []))) (some (MV.bool false, []))) (some (MV.bool false, []))) (some (MV.bool false, []))) (bnd (rec 18 [MV.int IntKind.i64 n2] []) fun r => bnd (gBool r.1) fun b => br (bNot (bNot b)) (bnd (rec 63 [MV.agg [MV.sl r3]] []) fun r => bnd (gBool r.1) fun b => br (bNot (bNot b)) (bnd (rec 25 [MV.int IntKind.i64 n5, MV.int IntKind.i64 0, MV.int IntKind.i64 12] []) fun r => bnd (gBool r.1) fun b => br (bNot (bNot b)) (bnd (rec 35 [MV.str s6] []) fun r => bnd (gBool r.1) fun b => br (bNot (bNot b)) (br (bNot (iLt 300 (sLen s7))) (bnd (rec 64 [MV.agg [MV.sl r3], MV.int IntKind.i64 n2] []) fun r => bnd (gBool r.1) fun b => br (bNot b) (some (MV.bool false, [])) (bnd (rec 60 [MV.int IntKind.i64 n2] []) fun r => bnd (gSl r.1) fun r => P_22_7 rec LL b1 n2 r3 r4 n5 s6 s7 0 r (nrows r) 0)) (some (MV.bool false, []))) (some (MV.bool false, []))) (some (MV.bool false, []))) (some (MV.bool false, []))) (some (MV.bool false, [])))
theorem g_22 (D : Nat) (b1 : Bool) (n2 : Int) (r3 : List Row) (r4 : List Row) (n5 : Int) (s6 : ByteArray) (s7 : ByteArray) : G_22 (ev E LL D) b1 n2 r3 r4 n5 s6 s7 = ev E LL (D + 1) 22 [.agg [.bool b1, .int .i64 n2, .sl r3, .sl r4, .int .i64 n5, .str s6, .str s7]] [] := by
  rw [eq_22]
  unfold G_22
  simp only [kEq_eq, p_22_7]
def G_23024 (rec : Run) (r1 : List Row) : Option Res := bnd (rec 67 [MV.sl r1, MV.fn 24 []] []) fun r => bnd (gBool r.1) fun b => some (MV.bool b, [])
theorem g_23024 (D : Nat) (r1 : List Row) : G_23024 (ev E LL D) r1 = ev E LL (D + 1) 23 [.sl r1, .fn 24 []] [] := by
  rw [eq_23024]
  unfold G_23024
  rfl
def G_23026 (rec : Run) (r1 : List Row) : Option Res := bnd (rec 67 [MV.sl r1, MV.fn 26 []] []) fun r => bnd (gBool r.1) fun b => some (MV.bool b, [])
theorem g_23026 (D : Nat) (r1 : List Row) : G_23026 (ev E LL D) r1 = ev E LL (D + 1) 23 [.sl r1, .fn 26 []] [] := by
  rw [eq_23026]
  unfold G_23026
  rfl
def G_24 (rec : Run) (n1 : Int) : Option Res := bnd (rec 25 [MV.int IntKind.i64 n1, MV.int IntKind.i64 0, MV.int IntKind.i64 99] []) fun r => bnd (gBool r.1) fun b => some (MV.bool (bNot b), [])
theorem g_24 (D : Nat) (n1 : Int) : G_24 (ev E LL D) n1 = ev E LL (D + 1) 24 [.int .i64 n1] [] := by
  rw [eq_24]
  unfold G_24
  rfl
def G_25 (rec : Run) (n1 : Int) (n2 : Int) (n3 : Int) : Option Res := br (iLe n2 n1) (some (MV.bool (iLe n1 n3), [])) (some (MV.bool false, []))
theorem g_25 (D : Nat) (n1 : Int) (n2 : Int) (n3 : Int) : G_25 (ev E LL D) n1 n2 n3 = ev E LL (D + 1) 25 [.int .i64 n1, .int .i64 n2, .int .i64 n3] [] := by
  rw [eq_25]
  unfold G_25
  rfl
def G_26 (rec : Run) (n1 : Int) : Option Res := bnd (rec 25 [MV.int IntKind.i64 n1, MV.int IntKind.i64 0, MV.int IntKind.i64 999] []) fun r => bnd (gBool r.1) fun b => some (MV.bool (bNot b), [])
theorem g_26 (D : Nat) (n1 : Int) : G_26 (ev E LL D) n1 = ev E LL (D + 1) 26 [.int .i64 n1] [] := by
  rw [eq_26]
  unfold G_26
  rfl
def G_27028 (rec : Run) (r1 : List Row) : Option Res := bnd (rec 68 [MV.sl r1, MV.fn 28 []] []) fun r => bnd (gBool r.1) fun b => some (MV.bool b, [])
theorem g_27028 (D : Nat) (r1 : List Row) : G_27028 (ev E LL D) r1 = ev E LL (D + 1) 27 [.sl r1, .fn 28 []] [] := by
  rw [eq_27028]
  unfold G_27028
  rfl
def G_28 (rec : Run) (r1 : List Row) : Option Res := bnd (rec 29 [MV.sl r1] []) fun r => bnd (gBool r.1) fun b => some (MV.bool (bNot b), [])
theorem g_28 (D : Nat) (r1 : List Row) : G_28 (ev E LL D) r1 = ev E LL (D + 1) 28 [.sl r1] [] := by
  rw [eq_28]
  unfold G_28
  rfl
def B_29_2 (rec : Run) (self : List Row → List Row → Int → Int → Option Res) (r0 : List Row) (r1 : List Row) (i2 : Int) (i3 : Int) : Option Res := br (iLt i3 i2) (bnd (rowZ 3 r1 i3) fun row => bnd (gStr (cellAt row 0)) fun s => bnd (gInt IntKind.i64 (cellAt row 1)) fun n_1 => bnd (gSl (cellAt row 2)) fun r => bnd (rec 69 [MV.agg [MV.str s, MV.int IntKind.i64 n_1, MV.sl r]] []) fun r => bnd (gBool r.1) fun b => br (bNot (bNot b)) (bnd (rec 70 [MV.sl r0, MV.str s] []) fun r => bnd (gInt IntKind.i64 r.1) fun n_2 => br (bNot (iEq n_2 i3)) (some (MV.bool false, [])) (self r0 r1 i2 (iAdd IntKind.i64 i3 1))) (some (MV.bool false, []))) (some (MV.bool true, []))
def P_29_2 (rec : Run) (n : Nat) : List Row → List Row → Int → Int → Option Res := Nat.rec (motive := fun _ => List Row → List Row → Int → Int → Option Res) (fun _ _ _ _ => none) (fun _ self => B_29_2 rec self) n
theorem p_29_2 (D : Nat) : ∀ (n : Nat) (r0 : List Row) (r1 : List Row) (i2 : Int) (i3 : Int), P_29_2 (ev E LL D) n r0 r1 i2 i3 = LP_29_2 LL D n  r0 r1 i2 i3
  | 0, _, _, _, _ => by unfold LP_29_2 lp loopN; rfl
  | n + 1, r0, r1, i2, i3 => by
    have ih : P_29_2 (ev E LL D) n = fun r0 r1 i2 i3 => LP_29_2 LL D n  r0 r1 i2 i3 := by funext r0 r1 i2 i3; exact p_29_2 D n r0 r1 i2 i3
    show B_29_2 (ev E LL D) (P_29_2 (ev E LL D) n) r0 r1 i2 i3 = _
    rw [ih, LP_29_2_succ]
    unfold B_29_2
    rfl
def G_29 (rec : Run) (r1 : List Row) : Option Res := P_29_2 rec LL r1 r1 (nrows r1) 0
theorem g_29 (D : Nat) (r1 : List Row) : G_29 (ev E LL D) r1 = ev E LL (D + 1) 29 [.sl r1] [] := by
  rw [eq_29]
  unfold G_29
  simp only [p_29_2]
def G_30031 (rec : Run) (r1 : List Row) : Option Res := bnd (rec 71 [MV.sl r1, MV.fn 31 []] []) fun r => bnd (gBool r.1) fun b => some (MV.bool b, [])
theorem g_30031 (D : Nat) (r1 : List Row) : G_30031 (ev E LL D) r1 = ev E LL (D + 1) 30 [.sl r1, .fn 31 []] [] := by
  rw [eq_30031]
  unfold G_30031
  rfl
def G_31 (rec : Run) (n1 : Int) (s2 : ByteArray) (s3 : ByteArray) (n4 : Int) (n5 : Int) (s6 : ByteArray) (r7 : List Row) (r8 : List Row) (s9 : ByteArray) (s10 : ByteArray) (s11 : ByteArray) (s12 : ByteArray) (s13 : ByteArray) : Option Res := bnd (rec 32 [MV.agg [MV.int IntKind.i64 n1, MV.str s2, MV.str s3, MV.int IntKind.i64 n4, MV.int IntKind.i64 n5, MV.str s6, MV.sl r7, MV.sl r8, MV.str s9, MV.str s10, MV.str s11, MV.str s12, MV.str s13]] []) fun r => bnd (gBool r.1) fun b => some (MV.bool (bNot b), [])
theorem g_31 (D : Nat) (n1 : Int) (s2 : ByteArray) (s3 : ByteArray) (n4 : Int) (n5 : Int) (s6 : ByteArray) (r7 : List Row) (r8 : List Row) (s9 : ByteArray) (s10 : ByteArray) (s11 : ByteArray) (s12 : ByteArray) (s13 : ByteArray) : G_31 (ev E LL D) n1 s2 s3 n4 n5 s6 r7 r8 s9 s10 s11 s12 s13 = ev E LL (D + 1) 31 [.agg [.int .i64 n1, .str s2, .str s3, .int .i64 n4, .int .i64 n5, .str s6, .sl r7, .sl r8, .str s9, .str s10, .str s11, .str s12, .str s13]] [] := by
  rw [eq_31]
  unfold G_31
  rfl
def G_32 (rec : Run) (n1 : Int) (s2 : ByteArray) (s3 : ByteArray) (n4 : Int) (n5 : Int) (s6 : ByteArray) (r7 : List Row) (r8 : List Row) (s9 : ByteArray) (s10 : ByteArray) (s11 : ByteArray) (s12 : ByteArray) (s13 : ByteArray) : Option Res := bnd (rec 18 [MV.int IntKind.i64 n1] []) fun r => bnd (gBool r.1) fun b => br (bNot (bNot b)) (bnd (rec 72 [MV.str s3] []) fun r => bnd (gAggN 5 r.1) fun cs => bnd (gInt IntKind.i64 (cellAt cs 0)) fun n => bnd (gInt IntKind.i64 (cellAt cs 1)) fun n_1 => bnd (gInt IntKind.i64 (cellAt cs 2)) fun n_2 => bnd (gStr (cellAt cs 3)) fun s => bnd (gStr (cellAt cs 4)) fun s => br (bNot (bNot (iEq n 1))) (br (bNot (iLt 300 (iAdd IntKind.i64 (sLen s2) (sLen s3)))) (bnd (rec 73 [MV.int IntKind.i64 n4, MV.int IntKind.i64 n1] []) fun r => bnd (gBool r.1) fun b => br (bNot (bNot b)) (bnd (rec 73 [MV.int IntKind.i64 n5, MV.int IntKind.i64 n1] []) fun r => bnd (gBool r.1) fun b => br (bNot (bNot b)) (bnd (rec 63 [MV.agg [MV.sl r7]] []) fun r => bnd (gBool r.1) fun b => br (bNot (bNot b)) (br (bNot (iLt 20 (nrows r8))) (bnd (rec 49 [MV.sl [], MV.sl r8] []) fun r => bnd (gBool r.1) fun b => br (bNot (bNot b)) (bnd (rec 74 [MV.int IntKind.i64 n4, MV.str s6, MV.str s9] []) fun r => bnd (gBool r.1) fun b => br (bNot b) (some (MV.bool false, [])) (br (iLt n4 0) (some (MV.bool (bAnd (kEq s9 (bs [])) (bAnd (bAnd (kEq s10 (bs [])) (bAnd (kEq s11 (bs [])) true)) (bAnd (bAnd (kEq s12 (bs [])) (bAnd (kEq s13 (bs [])) true)) true))), [])) (br (kEq s10 s9) (br (kEq s12 s9) (bnd (rec 35 [MV.str s11] []) fun r => bnd (gBool r.1) fun b => br b (bnd (rec 35 [MV.str s13] []) fun r => bnd (gBool r.1) fun b => some (MV.bool b, [])) (some (MV.bool false, []))) (some (MV.bool false, []))) (some (MV.bool false, []))))) (some (MV.bool false, []))) (some (MV.bool false, []))) (some (MV.bool false, []))) (some (MV.bool false, []))) (some (MV.bool false, []))) (some (MV.bool false, []))) (some (MV.bool false, []))) (some (MV.bool false, []))
theorem g_32 (D : Nat) (n1 : Int) (s2 : ByteArray) (s3 : ByteArray) (n4 : Int) (n5 : Int) (s6 : ByteArray) (r7 : List Row) (r8 : List Row) (s9 : ByteArray) (s10 : ByteArray) (s11 : ByteArray) (s12 : ByteArray) (s13 : ByteArray) : G_32 (ev E LL D) n1 s2 s3 n4 n5 s6 r7 r8 s9 s10 s11 s12 s13 = ev E LL (D + 1) 32 [.agg [.int .i64 n1, .str s2, .str s3, .int .i64 n4, .int .i64 n5, .str s6, .sl r7, .sl r8, .str s9, .str s10, .str s11, .str s12, .str s13]] [] := by
  rw [eq_32]
  unfold G_32
  simp only [kEq_eq]
def G_35 (rec : Run) (s1 : ByteArray) : Option Res := bnd (rec 72 [MV.str s1] []) fun r => bnd (gAggN 5 r.1) fun cs => bnd (gInt IntKind.i64 (cellAt cs 0)) fun n => bnd (gInt IntKind.i64 (cellAt cs 1)) fun n_1 => bnd (gInt IntKind.i64 (cellAt cs 2)) fun n_2 => bnd (gStr (cellAt cs 3)) fun s => bnd (gStr (cellAt cs 4)) fun s => some (MV.bool (bNot (iEq n 0)), [])
theorem g_35 (D : Nat) (s1 : ByteArray) : G_35 (ev E LL D) s1 = ev E LL (D + 1) 35 [.str s1] [] := by
  rw [eq_35]
  unfold G_35
  rfl
def B_47_13 (rec : Run) (self : List Row → List Row → List Row → List Row → List Row → List Row → List Row → List Row → List Row → List Row → List Row → List Row → List Row → List Row → List Row → List Row → List Row → List Row → List Row → List Row → Int → Int → Int → Int → Int → Int → Int → Int → Int → Int → Int → Int → Int → Int → Int → Int → Int → Int → Int → Int → List Row → Int → Int → Option Res) (r0 : List Row) (r1 : List Row) (r2 : List Row) (r3 : List Row) (r4 : List Row) (r5 : List Row) (r6 : List Row) (r7 : List Row) (r8 : List Row) (r9 : List Row) (r10 : List Row) (r11 : List Row) (r12 : List Row) (r13 : List Row) (r14 : List Row) (r15 : List Row) (r16 : List Row) (r17 : List Row) (r18 : List Row) (r19 : List Row) (i20 : Int) (i21 : Int) (i22 : Int) (i23 : Int) (i24 : Int) (i25 : Int) (i26 : Int) (i27 : Int) (i28 : Int) (i29 : Int) (i30 : Int) (i31 : Int) (i32 : Int) (i33 : Int) (i34 : Int) (i35 : Int) (i36 : Int) (i37 : Int) (i38 : Int) (i39 : Int) (r40 : List Row) (i41 : Int) (i42 : Int) : Option Res := br (iLt i42 i41) (bnd (rowZ 1 r40 i42) fun row => bnd (gSl (cellAt row 0)) fun r => bnd (rec 94 [MV.sl r] []) fun r => bnd (gOwn r.1) fun r => br (iEq i38 (nrows r18)) (bnd (rowZ 1 r18 i42) fun x => br (iEq (nrows r) (nrows r)) (br (iEq i38 (nrows r18)) (bnd (rowAt r18 i42) fun row => br (iLe 1 (rowLen row)) (self r0 r1 r2 r3 r4 r5 r6 r7 r8 r9 r10 r11 r12 r13 r14 r15 r16 r17 (setR r18 i42 (setRow row 0 [MV.sl r])) r19 i20 i21 i22 i23 i24 i25 i26 i27 i28 i29 i30 i31 i32 i33 i34 i35 i36 i37 i38 i39 r40 i41 (iAdd IntKind.i64 i42 1)) none) none) none) none) (br (iEq i30 (nrows r10)) (br (iEq i31 (nrows r11)) (br (iEq i32 (nrows r12)) (br (iEq i33 (nrows r13)) (br (iEq i34 (nrows r14)) (br (iEq i35 (nrows r15)) (br (iEq i36 (nrows r16)) (br (iEq i37 (nrows r17)) (br (iEq i38 (nrows r18)) (br (iEq i39 (nrows r19)) (some (MV.agg [MV.own r10, MV.own r11, MV.own r12, MV.own r13, MV.own r14, MV.own r15, MV.own r16, MV.own r17, MV.own r18, MV.own r19], [])) none) none) none) none) none) none) none) none) none) none)
def P_47_13 (rec : Run) (n : Nat) : List Row → List Row → List Row → List Row → List Row → List Row → List Row → List Row → List Row → List Row → List Row → List Row → List Row → List Row → List Row → List Row → List Row → List Row → List Row → List Row → Int → Int → Int → Int → Int → Int → Int → Int → Int → Int → Int → Int → Int → Int → Int → Int → Int → Int → Int → Int → List Row → Int → Int → Option Res := Nat.rec (motive := fun _ => List Row → List Row → List Row → List Row → List Row → List Row → List Row → List Row → List Row → List Row → List Row → List Row → List Row → List Row → List Row → List Row → List Row → List Row → List Row → List Row → Int → Int → Int → Int → Int → Int → Int → Int → Int → Int → Int → Int → Int → Int → Int → Int → Int → Int → Int → Int → List Row → Int → Int → Option Res) (fun _ _ _ _ _ _ _ _ _ _ _ _ _ _ _ _ _ _ _ _ _ _ _ _ _ _ _ _ _ _ _ _ _ _ _ _ _ _ _ _ _ _ _ => none) (fun _ self => B_47_13 rec self) n
theorem p_47_13 (D : Nat) : ∀ (n : Nat) (r0 : List Row) (r1 : List Row) (r2 : List Row) (r3 : List Row) (r4 : List Row) (r5 : List Row) (r6 : List Row) (r7 : List Row) (r8 : List Row) (r9 : List Row) (r10 : List Row) (r11 : List Row) (r12 : List Row) (r13 : List Row) (r14 : List Row) (r15 : List Row) (r16 : List Row) (r17 : List Row) (r18 : List Row) (r19 : List Row) (i20 : Int) (i21 : Int) (i22 : Int) (i23 : Int) (i24 : Int) (i25 : Int) (i26 : Int) (i27 : Int) (i28 : Int) (i29 : Int) (i30 : Int) (i31 : Int) (i32 : Int) (i33 : Int) (i34 : Int) (i35 : Int) (i36 : Int) (i37 : Int) (i38 : Int) (i39 : Int) (r40 : List Row) (i41 : Int) (i42 : Int), P_47_13 (ev E LL D) n r0 r1 r2 r3 r4 r5 r6 r7 r8 r9 r10 r11 r12 r13 r14 r15 r16 r17 r18 r19 i20 i21 i22 i23 i24 i25 i26 i27 i28 i29 i30 i31 i32 i33 i34 i35 i36 i37 i38 i39 r40 i41 i42 = LP_47_13 LL D n  r0 r1 r2 r3 r4 r5 r6 r7 r8 r9 r10 r11 r12 r13 r14 r15 r16 r17 r18 r19 i20 i21 i22 i23 i24 i25 i26 i27 i28 i29 i30 i31 i32 i33 i34 i35 i36 i37 i38 i39 r40 i41 i42
  | 0, _, _, _, _, _, _, _, _, _, _, _, _, _, _, _, _, _, _, _, _, _, _, _, _, _, _, _, _, _, _, _, _, _, _, _, _, _, _, _, _, _, _, _ => by unfold LP_47_13 lp loopN; rfl
  | n + 1, r0, r1, r2, r3, r4, r5, r6, r7, r8, r9, r10, r11, r12, r13, r14, r15, r16, r17, r18, r19, i20, i21, i22, i23, i24, i25, i26, i27, i28, i29, i30, i31, i32, i33, i34, i35, i36, i37, i38, i39, r40, i41, i42 => by
    have ih : P_47_13 (ev E LL D) n = fun r0 r1 r2 r3 r4 r5 r6 r7 r8 r9 r10 r11 r12 r13 r14 r15 r16 r17 r18 r19 i20 i21 i22 i23 i24 i25 i26 i27 i28 i29 i30 i31 i32 i33 i34 i35 i36 i37 i38 i39 r40 i41 i42 => LP_47_13 LL D n  r0 r1 r2 r3 r4 r5 r6 r7 r8 r9 r10 r11 r12 r13 r14 r15 r16 r17 r18 r19 i20 i21 i22 i23 i24 i25 i26 i27 i28 i29 i30 i31 i32 i33 i34 i35 i36 i37 i38 i39 r40 i41 i42 := by funext r0 r1 r2 r3 r4 r5 r6 r7 r8 r9 r10 r11 r12 r13 r14 r15 r16 r17 r18 r19 i20 i21 i22 i23 i24 i25 i26 i27 i28 i29 i30 i31 i32 i33 i34 i35 i36 i37 i38 i39 r40 i41 i42; exact p_47_13 D n r0 r1 r2 r3 r4 r5 r6 r7 r8 r9 r10 r11 r12 r13 r14 r15 r16 r17 r18 r19 i20 i21 i22 i23 i24 i25 i26 i27 i28 i29 i30 i31 i32 i33 i34 i35 i36 i37 i38 i39 r40 i41 i42
    show B_47_13 (ev E LL D) (P_47_13 (ev E LL D) n) r0 r1 r2 r3 r4 r5 r6 r7 r8 r9 r10 r11 r12 r13 r14 r15 r16 r17 r18 r19 i20 i21 i22 i23 i24 i25 i26 i27 i28 i29 i30 i31 i32 i33 i34 i35 i36 i37 i38 i39 r40 i41 i42 = _
    rw [ih, LP_47_13_succ]
    unfold B_47_13
    rfl
def B_47_8 (rec : Run) (self : List Row → List Row → List Row → List Row → List Row → List Row → List Row → List Row → List Row → List Row → List Row → List Row → List Row → List Row → List Row → List Row → List Row → List Row → List Row → List Row → List Row → List Row → List Row → List Row → List Row → List Row → List Row → List Row → List Row → List Row → Int → Int → Int → Int → Int → Int → Int → Int → Int → Int → Int → Int → Int → Int → Int → Int → Int → Int → Int → Int → List Row → Int → Int → Option Res) (r0 : List Row) (r1 : List Row) (r2 : List Row) (r3 : List Row) (r4 : List Row) (r5 : List Row) (r6 : List Row) (r7 : List Row) (r8 : List Row) (r9 : List Row) (r10 : List Row) (r11 : List Row) (r12 : List Row) (r13 : List Row) (r14 : List Row) (r15 : List Row) (r16 : List Row) (r17 : List Row) (r18 : List Row) (r19 : List Row) (r20 : List Row) (r21 : List Row) (r22 : List Row) (r23 : List Row) (r24 : List Row) (r25 : List Row) (r26 : List Row) (r27 : List Row) (r28 : List Row) (r29 : List Row) (i30 : Int) (i31 : Int) (i32 : Int) (i33 : Int) (i34 : Int) (i35 : Int) (i36 : Int) (i37 : Int) (i38 : Int) (i39 : Int) (i40 : Int) (i41 : Int) (i42 : Int) (i43 : Int) (i44 : Int) (i45 : Int) (i46 : Int) (i47 : Int) (i48 : Int) (i49 : Int) (r50 : List Row) (i51 : Int) (i52 : Int) : Option Res := br (iLt i52 i51) (bnd (rowZ 13 r50 i52) fun row => bnd (gInt IntKind.i64 (cellAt row 0)) fun n_1 => bnd (gStr (cellAt row 1)) fun s => bnd (gStr (cellAt row 2)) fun s => bnd (gInt IntKind.i64 (cellAt row 3)) fun n_2 => bnd (gInt IntKind.i64 (cellAt row 4)) fun n_3 => bnd (gStr (cellAt row 5)) fun s => bnd (gSl (cellAt row 6)) fun r => bnd (gSl (cellAt row 7)) fun r_1 => bnd (gStr (cellAt row 8)) fun s => bnd (gStr (cellAt row 9)) fun s => bnd (gStr (cellAt row 10)) fun s => bnd (gStr (cellAt row 11)) fun s => bnd (gStr (cellAt row 12)) fun s => bnd (rec 46 [MV.sl r] []) fun r => bnd (gOwn r.1) fun r => bnd (rec 45 [MV.sl r_1] []) fun r_2 => bnd (gOwn r_2.1) fun r_3 => br (iEq i42 (nrows r12)) (bnd (rowZ 13 r12 i52) fun x => br (iEq i42 (nrows r12)) (br (iEq (nrows r) (nrows r)) (br (iEq i42 (nrows r12)) (bnd (rowAt r12 i52) fun row => br (iLe 7 (rowLen row)) (br (iEq i42 (nrows (setR r12 i52 (setRow row 6 [MV.sl r])))) (bnd (rowZ 13 (setR r12 i52 (setRow row 6 [MV.sl r])) i52) fun x => br (iEq i42 (nrows (setR r12 i52 (setRow row 6 [MV.sl r])))) (br (iEq (nrows r_3) (nrows r_3)) (br (iEq i42 (nrows (setR r12 i52 (setRow row 6 [MV.sl r])))) (bnd (rowAt (setR r12 i52 (setRow row 6 [MV.sl r])) i52) fun row_1 => br (iLe 8 (rowLen row_1)) (self r0 r1 r2 r3 r4 r5 r6 r7 r8 r9 r10 r11 (setR (setR r12 i52 (setRow row 6 [MV.sl r])) i52 (setRow row_1 7 [MV.sl r_3])) r13 r14 r15 r16 r17 r18 r19 r20 r21 r22 r23 r24 r25 r26 r27 r28 r29 i30 i31 i32 i33 i34 i35 i36 i37 i38 i39 i40 i41 i42 i43 i44 i45 i46 i47 i48 i49 r50 i51 (iAdd IntKind.i64 i52 1)) none) none) none) none) none) none) none) none) none) none) (P_47_13 rec LL r0 r1 r2 r3 r4 r5 r6 r7 r8 r9 r10 r11 r12 r13 r14 r15 r16 r17 r18 r19 i30 i31 i32 i33 i34 i35 i36 i37 i38 i39 i40 i41 i42 i43 i44 i45 i46 i47 i48 i49 r28 (nrows r28) 0)
def P_47_8 (rec : Run) (n : Nat) : List Row → List Row → List Row → List Row → List Row → List Row → List Row → List Row → List Row → List Row → List Row → List Row → List Row → List Row → List Row → List Row → List Row → List Row → List Row → List Row → List Row → List Row → List Row → List Row → List Row → List Row → List Row → List Row → List Row → List Row → Int → Int → Int → Int → Int → Int → Int → Int → Int → Int → Int → Int → Int → Int → Int → Int → Int → Int → Int → Int → List Row → Int → Int → Option Res := Nat.rec (motive := fun _ => List Row → List Row → List Row → List Row → List Row → List Row → List Row → List Row → List Row → List Row → List Row → List Row → List Row → List Row → List Row → List Row → List Row → List Row → List Row → List Row → List Row → List Row → List Row → List Row → List Row → List Row → List Row → List Row → List Row → List Row → Int → Int → Int → Int → Int → Int → Int → Int → Int → Int → Int → Int → Int → Int → Int → Int → Int → Int → Int → Int → List Row → Int → Int → Option Res) (fun _ _ _ _ _ _ _ _ _ _ _ _ _ _ _ _ _ _ _ _ _ _ _ _ _ _ _ _ _ _ _ _ _ _ _ _ _ _ _ _ _ _ _ _ _ _ _ _ _ _ _ _ _ => none) (fun _ self => B_47_8 rec self) n
theorem p_47_8 (D : Nat) : ∀ (n : Nat) (r0 : List Row) (r1 : List Row) (r2 : List Row) (r3 : List Row) (r4 : List Row) (r5 : List Row) (r6 : List Row) (r7 : List Row) (r8 : List Row) (r9 : List Row) (r10 : List Row) (r11 : List Row) (r12 : List Row) (r13 : List Row) (r14 : List Row) (r15 : List Row) (r16 : List Row) (r17 : List Row) (r18 : List Row) (r19 : List Row) (r20 : List Row) (r21 : List Row) (r22 : List Row) (r23 : List Row) (r24 : List Row) (r25 : List Row) (r26 : List Row) (r27 : List Row) (r28 : List Row) (r29 : List Row) (i30 : Int) (i31 : Int) (i32 : Int) (i33 : Int) (i34 : Int) (i35 : Int) (i36 : Int) (i37 : Int) (i38 : Int) (i39 : Int) (i40 : Int) (i41 : Int) (i42 : Int) (i43 : Int) (i44 : Int) (i45 : Int) (i46 : Int) (i47 : Int) (i48 : Int) (i49 : Int) (r50 : List Row) (i51 : Int) (i52 : Int), P_47_8 (ev E LL D) n r0 r1 r2 r3 r4 r5 r6 r7 r8 r9 r10 r11 r12 r13 r14 r15 r16 r17 r18 r19 r20 r21 r22 r23 r24 r25 r26 r27 r28 r29 i30 i31 i32 i33 i34 i35 i36 i37 i38 i39 i40 i41 i42 i43 i44 i45 i46 i47 i48 i49 r50 i51 i52 = LP_47_8 LL D n  r0 r1 r2 r3 r4 r5 r6 r7 r8 r9 r10 r11 r12 r13 r14 r15 r16 r17 r18 r19 r20 r21 r22 r23 r24 r25 r26 r27 r28 r29 i30 i31 i32 i33 i34 i35 i36 i37 i38 i39 i40 i41 i42 i43 i44 i45 i46 i47 i48 i49 r50 i51 i52
  | 0, _, _, _, _, _, _, _, _, _, _, _, _, _, _, _, _, _, _, _, _, _, _, _, _, _, _, _, _, _, _, _, _, _, _, _, _, _, _, _, _, _, _, _, _, _, _, _, _, _, _, _, _, _ => by unfold LP_47_8 lp loopN; rfl
  | n + 1, r0, r1, r2, r3, r4, r5, r6, r7, r8, r9, r10, r11, r12, r13, r14, r15, r16, r17, r18, r19, r20, r21, r22, r23, r24, r25, r26, r27, r28, r29, i30, i31, i32, i33, i34, i35, i36, i37, i38, i39, i40, i41, i42, i43, i44, i45, i46, i47, i48, i49, r50, i51, i52 => by
    have ih : P_47_8 (ev E LL D) n = fun r0 r1 r2 r3 r4 r5 r6 r7 r8 r9 r10 r11 r12 r13 r14 r15 r16 r17 r18 r19 r20 r21 r22 r23 r24 r25 r26 r27 r28 r29 i30 i31 i32 i33 i34 i35 i36 i37 i38 i39 i40 i41 i42 i43 i44 i45 i46 i47 i48 i49 r50 i51 i52 => LP_47_8 LL D n  r0 r1 r2 r3 r4 r5 r6 r7 r8 r9 r10 r11 r12 r13 r14 r15 r16 r17 r18 r19 r20 r21 r22 r23 r24 r25 r26 r27 r28 r29 i30 i31 i32 i33 i34 i35 i36 i37 i38 i39 i40 i41 i42 i43 i44 i45 i46 i47 i48 i49 r50 i51 i52 := by funext r0 r1 r2 r3 r4 r5 r6 r7 r8 r9 r10 r11 r12 r13 r14 r15 r16 r17 r18 r19 r20 r21 r22 r23 r24 r25 r26 r27 r28 r29 i30 i31 i32 i33 i34 i35 i36 i37 i38 i39 i40 i41 i42 i43 i44 i45 i46 i47 i48 i49 r50 i51 i52; exact p_47_8 D n r0 r1 r2 r3 r4 r5 r6 r7 r8 r9 r10 r11 r12 r13 r14 r15 r16 r17 r18 r19 r20 r21 r22 r23 r24 r25 r26 r27 r28 r29 i30 i31 i32 i33 i34 i35 i36 i37 i38 i39 i40 i41 i42 i43 i44 i45 i46 i47 i48 i49 r50 i51 i52
    show B_47_8 (ev E LL D) (P_47_8 (ev E LL D) n) r0 r1 r2 r3 r4 r5 r6 r7 r8 r9 r10 r11 r12 r13 r14 r15 r16 r17 r18 r19 r20 r21 r22 r23 r24 r25 r26 r27 r28 r29 i30 i31 i32 i33 i34 i35 i36 i37 i38 i39 i40 i41 i42 i43 i44 i45 i46 i47 i48 i49 r50 i51 i52 = _
    rw [ih, LP_47_8_succ]
    unfold B_47_8
    simp only [p_47_13]
def B_47_3 (rec : Run) (self : List Row → List Row → List Row → List Row → List Row → List Row → List Row → List Row → List Row → List Row → List Row → List Row → List Row → List Row → List Row → List Row → List Row → List Row → List Row → List Row → List Row → List Row → List Row → List Row → List Row → List Row → List Row → List Row → List Row → List Row → Int → Int → Int → Int → Int → Int → Int → Int → Int → Int → Int → Int → Int → Int → Int → Int → Int → Int → Int → Int → List Row → Int → Int → Option Res) (r0 : List Row) (r1 : List Row) (r2 : List Row) (r3 : List Row) (r4 : List Row) (r5 : List Row) (r6 : List Row) (r7 : List Row) (r8 : List Row) (r9 : List Row) (r10 : List Row) (r11 : List Row) (r12 : List Row) (r13 : List Row) (r14 : List Row) (r15 : List Row) (r16 : List Row) (r17 : List Row) (r18 : List Row) (r19 : List Row) (r20 : List Row) (r21 : List Row) (r22 : List Row) (r23 : List Row) (r24 : List Row) (r25 : List Row) (r26 : List Row) (r27 : List Row) (r28 : List Row) (r29 : List Row) (i30 : Int) (i31 : Int) (i32 : Int) (i33 : Int) (i34 : Int) (i35 : Int) (i36 : Int) (i37 : Int) (i38 : Int) (i39 : Int) (i40 : Int) (i41 : Int) (i42 : Int) (i43 : Int) (i44 : Int) (i45 : Int) (i46 : Int) (i47 : Int) (i48 : Int) (i49 : Int) (r50 : List Row) (i51 : Int) (i52 : Int) : Option Res := br (iLt i52 i51) (bnd (rowZ 7 r50 i52) fun row => bnd (gBool (cellAt row 0)) fun b => bnd (gInt IntKind.i64 (cellAt row 1)) fun n_1 => bnd (gSl (cellAt row 2)) fun r => bnd (gSl (cellAt row 3)) fun r_1 => bnd (gInt IntKind.i64 (cellAt row 4)) fun n_2 => bnd (gStr (cellAt row 5)) fun s => bnd (gStr (cellAt row 6)) fun s_1 => bnd (rec 93 [MV.agg [MV.bool b, MV.int IntKind.i64 n_1, MV.sl r, MV.sl r_1, MV.int IntKind.i64 n_2, MV.str s, MV.str s_1]] []) fun r => bnd (gAggN 7 r.1) fun cs => bnd (gBool (cellAt cs 0)) fun b => bnd (gInt IntKind.i64 (cellAt cs 1)) fun n_3 => bnd (gSl (cellAt cs 2)) fun r => bnd (gSl (cellAt cs 3)) fun r_2 => bnd (gInt IntKind.i64 (cellAt cs 4)) fun n_4 => bnd (gStr (cellAt cs 5)) fun s => bnd (gStr (cellAt cs 6)) fun s_2 => br (iEq i40 (nrows r10)) (bnd (rowZ 7 r10 i52) fun x => br (iEq i40 (nrows r10)) (bnd (rowAt r10 i52) fun row => br (iLe 7 (rowLen row)) (self r0 r1 r2 r3 r4 r5 r6 r7 r8 r9 (setR r10 i52 (setRow row 0 [MV.bool b, MV.int IntKind.i64 n_3, MV.sl r, MV.sl r_2, MV.int IntKind.i64 n_4, MV.str s, MV.str s_2])) r11 r12 r13 r14 r15 r16 r17 r18 r19 r20 r21 r22 r23 r24 r25 r26 r27 r28 r29 i30 i31 i32 i33 i34 i35 i36 i37 i38 i39 i40 i41 i42 i43 i44 i45 i46 i47 i48 i49 r50 i51 (iAdd IntKind.i64 i52 1)) none) none) none) (P_47_8 rec LL r0 r1 r2 r3 r4 r5 r6 r7 r8 r9 r10 r11 r12 r13 r14 r15 r16 r17 r18 r19 r20 r21 r22 r23 r24 r25 r26 r27 r28 r29 i30 i31 i32 i33 i34 i35 i36 i37 i38 i39 i40 i41 i42 i43 i44 i45 i46 i47 i48 i49 r22 (nrows r22) 0)
def P_47_3 (rec : Run) (n : Nat) : List Row → List Row → List Row → List Row → List Row → List Row → List Row → List Row → List Row → List Row → List Row → List Row → List Row → List Row → List Row → List Row → List Row → List Row → List Row → List Row → List Row → List Row → List Row → List Row → List Row → List Row → List Row → List Row → List Row → List Row → Int → Int → Int → Int → Int → Int → Int → Int → Int → Int → Int → Int → Int → Int → Int → Int → Int → Int → Int → Int → List Row → Int → Int → Option Res := Nat.rec (motive := fun _ => List Row → List Row → List Row → List Row → List Row → List Row → List Row → List Row → List Row → List Row → List Row → List Row → List Row → List Row → List Row → List Row → List Row → List Row → List Row → List Row → List Row → List Row → List Row → List Row → List Row → List Row → List Row → List Row → List Row → List Row → Int → Int → Int → Int → Int → Int → Int → Int → Int → Int → Int → Int → Int → Int → Int → Int → Int → Int → Int → Int → List Row → Int → Int → Option Res) (fun _ _ _ _ _ _ _ _ _ _ _ _ _ _ _ _ _ _ _ _ _ _ _ _ _ _ _ _ _ _ _ _ _ _ _ _ _ _ _ _ _ _ _ _ _ _ _ _ _ _ _ _ _ => none) (fun _ self => B_47_3 rec self) n
theorem p_47_3 (D : Nat) : ∀ (n : Nat) (r0 : List Row) (r1 : List Row) (r2 : List Row) (r3 : List Row) (r4 : List Row) (r5 : List Row) (r6 : List Row) (r7 : List Row) (r8 : List Row) (r9 : List Row) (r10 : List Row) (r11 : List Row) (r12 : List Row) (r13 : List Row) (r14 : List Row) (r15 : List Row) (r16 : List Row) (r17 : List Row) (r18 : List Row) (r19 : List Row) (r20 : List Row) (r21 : List Row) (r22 : List Row) (r23 : List Row) (r24 : List Row) (r25 : List Row) (r26 : List Row) (r27 : List Row) (r28 : List Row) (r29 : List Row) (i30 : Int) (i31 : Int) (i32 : Int) (i33 : Int) (i34 : Int) (i35 : Int) (i36 : Int) (i37 : Int) (i38 : Int) (i39 : Int) (i40 : Int) (i41 : Int) (i42 : Int) (i43 : Int) (i44 : Int) (i45 : Int) (i46 : Int) (i47 : Int) (i48 : Int) (i49 : Int) (r50 : List Row) (i51 : Int) (i52 : Int), P_47_3 (ev E LL D) n r0 r1 r2 r3 r4 r5 r6 r7 r8 r9 r10 r11 r12 r13 r14 r15 r16 r17 r18 r19 r20 r21 r22 r23 r24 r25 r26 r27 r28 r29 i30 i31 i32 i33 i34 i35 i36 i37 i38 i39 i40 i41 i42 i43 i44 i45 i46 i47 i48 i49 r50 i51 i52 = LP_47_3 LL D n  r0 r1 r2 r3 r4 r5 r6 r7 r8 r9 r10 r11 r12 r13 r14 r15 r16 r17 r18 r19 r20 r21 r22 r23 r24 r25 r26 r27 r28 r29 i30 i31 i32 i33 i34 i35 i36 i37 i38 i39 i40 i41 i42 i43 i44 i45 i46 i47 i48 i49 r50 i51 i52
  | 0, _, _, _, _, _, _, _, _, _, _, _, _, _, _, _, _, _, _, _, _, _, _, _, _, _, _, _, _, _, _, _, _, _, _, _, _, _, _, _, _, _, _, _, _, _, _, _, _, _, _, _, _, _ => by unfold LP_47_3 lp loopN; rfl
  | n + 1, r0, r1, r2, r3, r4, r5, r6, r7, r8, r9, r10, r11, r12, r13, r14, r15, r16, r17, r18, r19, r20, r21, r22, r23, r24, r25, r26, r27, r28, r29, i30, i31, i32, i33, i34, i35, i36, i37, i38, i39, i40, i41, i42, i43, i44, i45, i46, i47, i48, i49, r50, i51, i52 => by
    have ih : P_47_3 (ev E LL D) n = fun r0 r1 r2 r3 r4 r5 r6 r7 r8 r9 r10 r11 r12 r13 r14 r15 r16 r17 r18 r19 r20 r21 r22 r23 r24 r25 r26 r27 r28 r29 i30 i31 i32 i33 i34 i35 i36 i37 i38 i39 i40 i41 i42 i43 i44 i45 i46 i47 i48 i49 r50 i51 i52 => LP_47_3 LL D n  r0 r1 r2 r3 r4 r5 r6 r7 r8 r9 r10 r11 r12 r13 r14 r15 r16 r17 r18 r19 r20 r21 r22 r23 r24 r25 r26 r27 r28 r29 i30 i31 i32 i33 i34 i35 i36 i37 i38 i39 i40 i41 i42 i43 i44 i45 i46 i47 i48 i49 r50 i51 i52 := by funext r0 r1 r2 r3 r4 r5 r6 r7 r8 r9 r10 r11 r12 r13 r14 r15 r16 r17 r18 r19 r20 r21 r22 r23 r24 r25 r26 r27 r28 r29 i30 i31 i32 i33 i34 i35 i36 i37 i38 i39 i40 i41 i42 i43 i44 i45 i46 i47 i48 i49 r50 i51 i52; exact p_47_3 D n r0 r1 r2 r3 r4 r5 r6 r7 r8 r9 r10 r11 r12 r13 r14 r15 r16 r17 r18 r19 r20 r21 r22 r23 r24 r25 r26 r27 r28 r29 i30 i31 i32 i33 i34 i35 i36 i37 i38 i39 i40 i41 i42 i43 i44 i45 i46 i47 i48 i49 r50 i51 i52
    show B_47_3 (ev E LL D) (P_47_3 (ev E LL D) n) r0 r1 r2 r3 r4 r5 r6 r7 r8 r9 r10 r11 r12 r13 r14 r15 r16 r17 r18 r19 r20 r21 r22 r23 r24 r25 r26 r27 r28 r29 i30 i31 i32 i33 i34 i35 i36 i37 i38 i39 i40 i41 i42 i43 i44 i45 i46 i47 i48 i49 r50 i51 i52 = _
    rw [ih, LP_47_3_succ]
    unfold B_47_3
    simp only [p_47_8]
def G_47 (rec : Run) (r1 : List Row) (r2 : List Row) (r3 : List Row) (r4 : List Row) (r5 : List Row) (r6 : List Row) (r7 : List Row) (r8 : List Row) (r9 : List Row) (r10 : List Row) : Option Res := bnd (rec 85 [MV.sl r1] []) fun r => bnd (gOwn r.1) fun r => bnd (rec 86 [MV.sl r2] []) fun r_1 => bnd (gOwn r_1.1) fun r_2 => bnd (rec 87 [MV.sl r3] []) fun r_3 => bnd (gOwn r_3.1) fun r_4 => bnd (rec 88 [MV.sl r4] []) fun r_5 => bnd (gOwn r_5.1) fun r_6 => bnd (rec 46 [MV.sl r5] []) fun r_7 => bnd (gOwn r_7.1) fun r_8 => bnd (rec 89 [MV.sl r6] []) fun r_9 => bnd (gOwn r_9.1) fun r_10 => bnd (rec 90 [MV.sl r7] []) fun r_11 => bnd (gOwn r_11.1) fun r_12 => bnd (rec 88 [MV.sl r8] []) fun r_13 => bnd (gOwn r_13.1) fun r_14 => bnd (rec 91 [MV.sl r9] []) fun r_15 => bnd (gOwn r_15.1) fun r_16 => bnd (rec 92 [MV.sl r10] []) fun r_17 => bnd (gOwn r_17.1) fun r_18 => P_47_3 rec LL [] [] [] [] [] [] [] [] [] [] r r_2 r_4 r_6 r_8 r_10 r_12 r_14 r_16 r_18 r1 r2 r3 r4 r5 r6 r7 r8 r9 r10 (nrows []) (nrows []) (nrows []) (nrows []) (nrows []) (nrows []) (nrows []) (nrows []) (nrows []) (nrows []) (nrows r) (nrows r_2) (nrows r_4) (nrows r_6) (nrows r_8) (nrows r_10) (nrows r_12) (nrows r_14) (nrows r_16) (nrows r_18) r1 (nrows r1) 0
theorem g_47 (D : Nat) (r1 : List Row) (r2 : List Row) (r3 : List Row) (r4 : List Row) (r5 : List Row) (r6 : List Row) (r7 : List Row) (r8 : List Row) (r9 : List Row) (r10 : List Row) : G_47 (ev E LL D) r1 r2 r3 r4 r5 r6 r7 r8 r9 r10 = ev E LL (D + 1) 47 [.agg [.sl r1, .sl r2, .sl r3, .sl r4, .sl r5, .sl r6, .sl r7, .sl r8, .sl r9, .sl r10]] [] := by
  rw [eq_47]
  unfold G_47
  simp only [p_47_3]
def G_49 (rec : Run) (r1 : List Row) (r2 : List Row) : Option Res := br (iLe (nrows r1) 400) (br (iLe (nrows r2) 400) (bnd (rec 76 [MV.sl r1, MV.fn 100 []] []) fun r => bnd (gBool r.1) fun b => br (bNot b) (bnd (rec 101 [MV.sl r2, MV.fn 102 []] []) fun r => bnd (gBool r.1) fun b => some (MV.bool (bNot b), [])) (some (MV.bool false, []))) (some (MV.bool false, []))) (some (MV.bool false, []))
theorem g_49 (D : Nat) (r1 : List Row) (r2 : List Row) : G_49 (ev E LL D) r1 r2 = ev E LL (D + 1) 49 [.sl r1, .sl r2] [] := by
  rw [eq_49]
  unfold G_49
  rfl
def B_50_3 (rec : Run) (self : List (ByteArray × Bool) → List Row → Int → Int → Option Res) (m0 : List (ByteArray × Bool)) (r1 : List Row) (i2 : Int) (i3 : Int) : Option Res := br (iLt i3 i2) (bnd (rowZ 1 r1 i3) fun row => bnd (gStr (cellAt row 0)) fun s => self (mapSet m0 s true) r1 i2 (iAdd IntKind.i64 i3 1)) (some (MV.mapr (H.imp 0), [Obj.map m0]))
def P_50_3 (rec : Run) (n : Nat) : List (ByteArray × Bool) → List Row → Int → Int → Option Res := Nat.rec (motive := fun _ => List (ByteArray × Bool) → List Row → Int → Int → Option Res) (fun _ _ _ _ => none) (fun _ self => B_50_3 rec self) n
theorem p_50_3 (D : Nat) : ∀ (n : Nat) (m0 : List (ByteArray × Bool)) (r1 : List Row) (i2 : Int) (i3 : Int), P_50_3 (ev E LL D) n m0 r1 i2 i3 = LP_50_3 LL D n  m0 r1 i2 i3
  | 0, _, _, _, _ => by unfold LP_50_3 lp loopN; rfl
  | n + 1, m0, r1, i2, i3 => by
    have ih : P_50_3 (ev E LL D) n = fun m0 r1 i2 i3 => LP_50_3 LL D n  m0 r1 i2 i3 := by funext m0 r1 i2 i3; exact p_50_3 D n m0 r1 i2 i3
    show B_50_3 (ev E LL D) (P_50_3 (ev E LL D) n) m0 r1 i2 i3 = _
    rw [ih, LP_50_3_succ]
    unfold B_50_3
    rfl
def G_50 (rec : Run) (r1 : List Row) : Option Res := P_50_3 rec LL [] r1 (nrows r1) 0
theorem g_50 (D : Nat) (r1 : List Row) : G_50 (ev E LL D) r1 = ev E LL (D + 1) 50 [.sl r1] [] := by
  rw [eq_50]
  unfold G_50
  simp only [p_50_3]
def B_51_13 (rec : Run) (k10 : List Row → List (ByteArray × Bool) → Int → List Row → Bool → Option Res) (self : List Row → List (ByteArray × Bool) → Int → List Row → Int → List Row → Int → Int → Option Res) (r0 : List Row) (m1 : List (ByteArray × Bool)) (i2 : Int) (r3 : List Row) (i4 : Int) (r5 : List Row) (i6 : Int) (i7 : Int) : Option Res := br (iLt i7 i6) (bnd (rowZ 2 r5 i7) fun row => bnd (gStr (cellAt row 0)) fun s => bnd (gStr (cellAt row 1)) fun s_1 => br (bNot (kGet m1 s_1)) (bnd (rec 52 [MV.mapr (H.imp 0), MV.str s] [Obj.map m1]) fun r => bnd (gMap (hdO r.2)) fun es => bnd (gBool r.1) fun b => br b (br (iEq i2 (nrows r0)) (bnd (rec 103 [MV.str s_1, MV.ptr (H.imp 0) 0, MV.ptr (H.imp 1) 0] [Obj.cells [MV.mapr (H.imp 2)], Obj.cells [MV.own r0], Obj.map es]) fun r => bnd (gCellsN 1 (hdO r.2)) fun ns => bnd (gMapI 2 (cellAt ns 0)) fun x => bnd (gCellsN 1 (hdO (tlO r.2))) fun ns => bnd (gOwn (cellAt ns 0)) fun s => bnd (gMap (hdO (tlO (tlO r.2)))) fun es => bnd (gTupN 0 r.1) fun vs => self s es (nrows s) r3 i4 r5 i6 (iAdd IntKind.i64 i7 1)) none) (self r0 es i2 r3 i4 r5 i6 (iAdd IntKind.i64 i7 1))) (self r0 m1 i2 r3 i4 r5 i6 (iAdd IntKind.i64 i7 1))) (br (iEq i2 (nrows r0)) (k10 r0 m1 i2 r3 (iLt i4 (nrows r0))) none)
def P_51_13 (rec : Run) (k10 : List Row → List (ByteArray × Bool) → Int → List Row → Bool → Option Res) (n : Nat) : List Row → List (ByteArray × Bool) → Int → List Row → Int → List Row → Int → Int → Option Res := Nat.rec (motive := fun _ => List Row → List (ByteArray × Bool) → Int → List Row → Int → List Row → Int → Int → Option Res) (fun _ _ _ _ _ _ _ _ => none) (fun _ self => B_51_13 rec k10 self) n
theorem p_51_13 (D : Nat) (n10 : Nat) : ∀ (n : Nat) (r0 : List Row) (m1 : List (ByteArray × Bool)) (i2 : Int) (r3 : List Row) (i4 : Int) (r5 : List Row) (i6 : Int) (i7 : Int), P_51_13 (ev E LL D) (fun r0 m1 i2 r3 b4 => LP_51_10 LL D n10 r0 m1 i2 r3 b4) n r0 m1 i2 r3 i4 r5 i6 i7 = LP_51_13 LL D n n10 r0 m1 i2 r3 i4 r5 i6 i7
  | 0, _, _, _, _, _, _, _, _ => by unfold LP_51_13 lp loopN; rfl
  | n + 1, r0, m1, i2, r3, i4, r5, i6, i7 => by
    have ih : P_51_13 (ev E LL D) (fun r0 m1 i2 r3 b4 => LP_51_10 LL D n10 r0 m1 i2 r3 b4) n = fun r0 m1 i2 r3 i4 r5 i6 i7 => LP_51_13 LL D n n10 r0 m1 i2 r3 i4 r5 i6 i7 := by funext r0 m1 i2 r3 i4 r5 i6 i7; exact p_51_13 D n10 n r0 m1 i2 r3 i4 r5 i6 i7
    show B_51_13 (ev E LL D) (fun r0 m1 i2 r3 b4 => LP_51_10 LL D n10 r0 m1 i2 r3 b4) (P_51_13 (ev E LL D) (fun r0 m1 i2 r3 b4 => LP_51_10 LL D n10 r0 m1 i2 r3 b4) n) r0 m1 i2 r3 i4 r5 i6 i7 = _
    rw [ih, LP_51_13_succ]
    unfold B_51_13
    simp only [kGet_eq]
def B_51_10 (rec : Run) (self : List Row → List (ByteArray × Bool) → Int → List Row → Bool → Option Res) (r0 : List Row) (m1 : List (ByteArray × Bool)) (i2 : Int) (r3 : List Row) (b4 : Bool) : Option Res := br b4 (br (iEq i2 (nrows r0)) (P_51_13 rec self LL r0 m1 i2 r3 (nrows r0) r3 (nrows r3) 0) none) (br (iEq i2 (nrows r0)) (bnd (rec 83 [MV.sl r0] []) fun r => bnd (gSl r.1) fun r => some (MV.sl r, [])) none)
def P_51_10 (rec : Run) (n : Nat) : List Row → List (ByteArray × Bool) → Int → List Row → Bool → Option Res := Nat.rec (motive := fun _ => List Row → List (ByteArray × Bool) → Int → List Row → Bool → Option Res) (fun _ _ _ _ _ => none) (fun _ self => B_51_10 rec self) n
theorem p_51_10 (D : Nat) : ∀ (n : Nat) (r0 : List Row) (m1 : List (ByteArray × Bool)) (i2 : Int) (r3 : List Row) (b4 : Bool), P_51_10 (ev E LL D) n r0 m1 i2 r3 b4 = LP_51_10 LL D n  r0 m1 i2 r3 b4
  | 0, _, _, _, _, _ => by unfold LP_51_10 lp loopN; rfl
  | n + 1, r0, m1, i2, r3, b4 => by
    have ih : P_51_10 (ev E LL D) n = fun r0 m1 i2 r3 b4 => LP_51_10 LL D n  r0 m1 i2 r3 b4 := by funext r0 m1 i2 r3 b4; exact p_51_10 D n r0 m1 i2 r3 b4
    show B_51_10 (ev E LL D) (P_51_10 (ev E LL D) n) r0 m1 i2 r3 b4 = _
    rw [ih, LP_51_10_succ]
    unfold B_51_10
    simp only [p_51_13]
def B_51_5 (rec : Run) (self : List Row → List (ByteArray × Bool) → Int → List Row → List Row → Int → Int → Option Res) (r0 : List Row) (m1 : List (ByteArray × Bool)) (i2 : Int) (r3 : List Row) (r4 : List Row) (i5 : Int) (i6 : Int) : Option Res := br (iLt i6 i5) (bnd (rowZ 1 r4 i6) fun row => bnd (gStr (cellAt row 0)) fun s => br (iEq i2 (nrows r0)) (bnd (rec 103 [MV.str s, MV.ptr (H.imp 0) 0, MV.ptr (H.imp 1) 0] [Obj.cells [MV.mapr (H.imp 2)], Obj.cells [MV.own r0], Obj.map m1]) fun r => bnd (gCellsN 1 (hdO r.2)) fun ns => bnd (gMapI 2 (cellAt ns 0)) fun x => bnd (gCellsN 1 (hdO (tlO r.2))) fun ns => bnd (gOwn (cellAt ns 0)) fun s => bnd (gMap (hdO (tlO (tlO r.2)))) fun es => bnd (gTupN 0 r.1) fun vs => self s es (nrows s) r3 r4 i5 (iAdd IntKind.i64 i6 1)) none) (P_51_10 rec LL r0 m1 i2 r3 true)
def P_51_5 (rec : Run) (n : Nat) : List Row → List (ByteArray × Bool) → Int → List Row → List Row → Int → Int → Option Res := Nat.rec (motive := fun _ => List Row → List (ByteArray × Bool) → Int → List Row → List Row → Int → Int → Option Res) (fun _ _ _ _ _ _ _ => none) (fun _ self => B_51_5 rec self) n
theorem p_51_5 (D : Nat) : ∀ (n : Nat) (r0 : List Row) (m1 : List (ByteArray × Bool)) (i2 : Int) (r3 : List Row) (r4 : List Row) (i5 : Int) (i6 : Int), P_51_5 (ev E LL D) n r0 m1 i2 r3 r4 i5 i6 = LP_51_5 LL D n  r0 m1 i2 r3 r4 i5 i6
  | 0, _, _, _, _, _, _, _ => by unfold LP_51_5 lp loopN; rfl
  | n + 1, r0, m1, i2, r3, r4, i5, i6 => by
    have ih : P_51_5 (ev E LL D) n = fun r0 m1 i2 r3 r4 i5 i6 => LP_51_5 LL D n  r0 m1 i2 r3 r4 i5 i6 := by funext r0 m1 i2 r3 r4 i5 i6; exact p_51_5 D n r0 m1 i2 r3 r4 i5 i6
    show B_51_5 (ev E LL D) (P_51_5 (ev E LL D) n) r0 m1 i2 r3 r4 i5 i6 = _
    rw [ih, LP_51_5_succ]
    unfold B_51_5
    simp only [p_51_10]
def G_51 (rec : Run) (r1 : List Row) (r2 : List Row) : Option Res := P_51_5 rec LL [] [] (nrows []) r2 r1 (nrows r1) 0
theorem g_51 (D : Nat) (r1 : List Row) (r2 : List Row) : G_51 (ev E LL D) r1 r2 = ev E LL (D + 1) 51 [.sl r1, .sl r2] [] := by
  rw [eq_51]
  unfold G_51
  simp only [p_51_5]
def G_52 (rec : Run) (es1 : List (ByteArray × Bool)) (s2 : ByteArray) : Option Res := br (kGet es1 s2) (some (MV.bool true, [Obj.map es1])) (bnd (rec 72 [MV.str s2] []) fun r => bnd (gAggN 5 r.1) fun cs => bnd (gInt IntKind.i64 (cellAt cs 0)) fun n => bnd (gInt IntKind.i64 (cellAt cs 1)) fun n_1 => bnd (gInt IntKind.i64 (cellAt cs 2)) fun n_2 => bnd (gStr (cellAt cs 3)) fun s => bnd (gStr (cellAt cs 4)) fun s_1 => br (iLt 1 n) (bnd (rec 52 [MV.mapr (H.imp 0), MV.str s] [Obj.map es1]) fun r => bnd (gMap (hdO r.2)) fun es => bnd (gBool r.1) fun b => br b (br (bNot (kEq s_1 (bs []))) (bnd (rec 52 [MV.mapr (H.imp 0), MV.str s_1] [Obj.map es]) fun r => bnd (gMap (hdO r.2)) fun es => bnd (gBool r.1) fun b => some (MV.bool b, [Obj.map es])) (some (MV.bool true, [Obj.map es]))) (some (MV.bool false, [Obj.map es]))) (some (MV.bool false, [Obj.map es1])))
theorem g_52 (D : Nat) (es1 : List (ByteArray × Bool)) (s2 : ByteArray) : G_52 (ev E LL D) es1 s2 = ev E LL (D + 1) 52 [.mapr (.imp 0), .str s2] [.map es1] := by
  rw [eq_52]
  unfold G_52
  simp only [kEq_eq, kGet_eq]
def G_56 (rec : Run) (s1 : ByteArray) : Option Res := bnd (rec 35 [MV.str s1] []) fun r => bnd (gBool r.1) fun b => br b (some (MV.bool (iLe (sLen s1) 292), [])) (some (MV.bool false, []))
theorem g_56 (D : Nat) (s1 : ByteArray) : G_56 (ev E LL D) s1 = ev E LL (D + 1) 56 [.str s1] [] := by
  rw [eq_56]
  unfold G_56
  rfl
def G_57 (rec : Run)  : Option Res := br (bAnd (iEq 15 15) (bAnd (iLe 0 15) (fits 15 0 16))) (br (iEq (nrows (repR 15 [MV.str (bs [])])) (nrows (repR 15 [MV.str (bs [])]))) (some (MV.agg [MV.own (repR 15 [MV.str (bs [])])], [])) none) none
theorem g_57 (D : Nat)  : G_57 (ev E LL D)  = ev E LL (D + 1) 57 [] [] := by
  rw [eq_57]
  unfold G_57
  rfl
def B_58_4 (rec : Run) (self : List Row → List Row → Int → Int → List Row → List Row → Int → Int → Option Res) (r0 : List Row) (r1 : List Row) (i2 : Int) (i3 : Int) (r4 : List Row) (r5 : List Row) (i6 : Int) (i7 : Int) : Option Res := br (iLt i7 i6) (bnd (rowZ 1 r5 i7) fun row => bnd (gStr (cellAt row 0)) fun s => bnd (rowZ 1 r4 i7) fun row => bnd (gInt IntKind.i64 (cellAt row 0)) fun n_1 => bnd (rec 66 [MV.str s] []) fun r => bnd (gStr r.1) fun s => br (iEq i3 (nrows r1)) (bnd (rowZ 1 r1 n_1) fun x => br (iEq i3 (nrows r1)) (bnd (rowAt r1 n_1) fun row => br (iLe 1 (rowLen row)) (self r0 (setR r1 n_1 (setRow row 0 [MV.str s])) i2 i3 r4 r5 i6 (iAdd IntKind.i64 i7 1)) none) none) none) (br (iEq i3 (nrows r1)) (some (MV.agg [MV.own r1], [])) none)
def P_58_4 (rec : Run) (n : Nat) : List Row → List Row → Int → Int → List Row → List Row → Int → Int → Option Res := Nat.rec (motive := fun _ => List Row → List Row → Int → Int → List Row → List Row → Int → Int → Option Res) (fun _ _ _ _ _ _ _ _ => none) (fun _ self => B_58_4 rec self) n
theorem p_58_4 (D : Nat) : ∀ (n : Nat) (r0 : List Row) (r1 : List Row) (i2 : Int) (i3 : Int) (r4 : List Row) (r5 : List Row) (i6 : Int) (i7 : Int), P_58_4 (ev E LL D) n r0 r1 i2 i3 r4 r5 i6 i7 = LP_58_4 LL D n  r0 r1 i2 i3 r4 r5 i6 i7
  | 0, _, _, _, _, _, _, _, _ => by unfold LP_58_4 lp loopN; rfl
  | n + 1, r0, r1, i2, i3, r4, r5, i6, i7 => by
    have ih : P_58_4 (ev E LL D) n = fun r0 r1 i2 i3 r4 r5 i6 i7 => LP_58_4 LL D n  r0 r1 i2 i3 r4 r5 i6 i7 := by funext r0 r1 i2 i3 r4 r5 i6 i7; exact p_58_4 D n r0 r1 i2 i3 r4 r5 i6 i7
    show B_58_4 (ev E LL D) (P_58_4 (ev E LL D) n) r0 r1 i2 i3 r4 r5 i6 i7 = _
    rw [ih, LP_58_4_succ]
    unfold B_58_4
    rfl
def G_58 (rec : Run) (r1 : List Row) (n2 : Int) (s3 : ByteArray) : Option Res := bnd (rec 110 [MV.agg [MV.sl r1]] []) fun r => bnd (gAggN 1 r.1) fun cs => bnd (gOwn (cellAt cs 0)) fun r => bnd (rec 60 [MV.int IntKind.i64 n2] []) fun r_1 => bnd (gSl r_1.1) fun r_2 => bnd (rec 111 [MV.str s3, MV.int IntKind.i64 (nrows r_2)] []) fun r_3 => bnd (gSl r_3.1) fun r_4 => P_58_4 rec LL [] r (nrows []) (nrows r) r_2 r_4 (nrows r_4) 0
theorem g_58 (D : Nat) (r1 : List Row) (n2 : Int) (s3 : ByteArray) : G_58 (ev E LL D) r1 n2 s3 = ev E LL (D + 1) 58 [.agg [.sl r1], .int .i64 n2, .str s3] [] := by
  rw [eq_58]
  unfold G_58
  simp only [p_58_4]
def B_59_3 (rec : Run) (self : List Row → List Row → Int → List Row → Int → Int → Option Res) (r0 : List Row) (r1 : List Row) (i2 : Int) (r3 : List Row) (i4 : Int) (i5 : Int) : Option Res := br (iLt i5 i4) (bnd (rowZ 1 r3 i5) fun row => bnd (gStr (cellAt row 0)) fun s => bnd (rowZ 1 r1 i5) fun row => bnd (gInt IntKind.i64 (cellAt row 0)) fun n_1 => br (iEq i2 (nrows r0)) (bnd (rowZ 2 r0 i5) fun x => br (iEq i2 (nrows r0)) (bnd (rowAt r0 i5) fun row => br (iLe 2 (rowLen row)) (self (setR r0 i5 (setRow row 0 [MV.int IntKind.i64 n_1, MV.str s])) r1 i2 r3 i4 (iAdd IntKind.i64 i5 1)) none) none) none) (br (iEq i2 (nrows r0)) (some (MV.sl r0, [])) none)
def P_59_3 (rec : Run) (n : Nat) : List Row → List Row → Int → List Row → Int → Int → Option Res := Nat.rec (motive := fun _ => List Row → List Row → Int → List Row → Int → Int → Option Res) (fun _ _ _ _ _ _ => none) (fun _ self => B_59_3 rec self) n
theorem p_59_3 (D : Nat) : ∀ (n : Nat) (r0 : List Row) (r1 : List Row) (i2 : Int) (r3 : List Row) (i4 : Int) (i5 : Int), P_59_3 (ev E LL D) n r0 r1 i2 r3 i4 i5 = LP_59_3 LL D n  r0 r1 i2 r3 i4 i5
  | 0, _, _, _, _, _, _ => by unfold LP_59_3 lp loopN; rfl
  | n + 1, r0, r1, i2, r3, i4, i5 => by
    have ih : P_59_3 (ev E LL D) n = fun r0 r1 i2 r3 i4 i5 => LP_59_3 LL D n  r0 r1 i2 r3 i4 i5 := by funext r0 r1 i2 r3 i4 i5; exact p_59_3 D n r0 r1 i2 r3 i4 i5
    show B_59_3 (ev E LL D) (P_59_3 (ev E LL D) n) r0 r1 i2 r3 i4 i5 = _
    rw [ih, LP_59_3_succ]
    unfold B_59_3
    rfl
def G_59 (rec : Run) (r1 : List Row) (s2 : ByteArray) : Option Res := br (bAnd (iEq (nrows r1) (nrows r1)) (bAnd (iLe 0 (nrows r1)) (fits (nrows r1) 0 24))) (bnd (rec 111 [MV.str s2, MV.int IntKind.i64 (nrows r1)] []) fun r => bnd (gSl r.1) fun r => P_59_3 rec LL (repR (nrows r1) [MV.int IntKind.i64 0, MV.str (bs [])]) r1 (nrows (repR (nrows r1) [MV.int IntKind.i64 0, MV.str (bs [])])) r (nrows r) 0) none
theorem g_59 (D : Nat) (r1 : List Row) (s2 : ByteArray) : G_59 (ev E LL D) r1 s2 = ev E LL (D + 1) 59 [.sl r1, .str s2] [] := by
  rw [eq_59]
  unfold G_59
  simp only [p_59_3]
def G_60 (rec : Run) (n1 : Int) : Option Res := bnd (rec 112 [MV.int IntKind.i64 n1] []) fun r => bnd (gInt IntKind.i64 r.1) fun n => bnd (rec 112 [MV.int IntKind.i64 n1] []) fun r => bnd (gInt IntKind.i64 r.1) fun n_1 => bnd (rec 113 [MV.int IntKind.i64 n_1] []) fun r => bnd (gSl r.1) fun r => br (bAnd (iEq (nrows [[MV.int IntKind.i64 n]]) (nrows [[MV.int IntKind.i64 n]])) (bAnd (okR 1 [[MV.int IntKind.i64 n]]) (bAnd (okR 1 r) (fits (nrows [[MV.int IntKind.i64 n]]) (nrows r) 8)))) (br (iEq (nrows (catR [[MV.int IntKind.i64 n]] r)) (nrows (catR [[MV.int IntKind.i64 n]] r))) (some (MV.sl (catR [[MV.int IntKind.i64 n]] r), [])) none) none
theorem g_60 (D : Nat) (n1 : Int) : G_60 (ev E LL D) n1 = ev E LL (D + 1) 60 [.int .i64 n1] [] := by
  rw [eq_60]
  unfold G_60
  rfl
def G_61 (rec : Run) (n1 : Int) : Option Res := br (bAnd (iLe 0 (iWrap IntKind.i32 (iAdd IntKind.i64 65 n1))) (iLt (iWrap IntKind.i32 (iAdd IntKind.i64 65 n1)) 128)) (some (MV.str (sOne (iWrap IntKind.i32 (iAdd IntKind.i64 65 n1))), [])) none
theorem g_61 (D : Nat) (n1 : Int) : G_61 (ev E LL D) n1 = ev E LL (D + 1) 61 [.int .i64 n1] [] := by
  rw [eq_61]
  unfold G_61
  rfl
def G_63 (rec : Run) (r1 : List Row) : Option Res := br (iEq (nrows r1) 15) (bnd (rec 76 [MV.sl r1, MV.fn 115 []] []) fun r => bnd (gBool r.1) fun b => some (MV.bool (bNot b), [])) (some (MV.bool false, []))
theorem g_63 (D : Nat) (r1 : List Row) : G_63 (ev E LL D) r1 = ev E LL (D + 1) 63 [.agg [.sl r1]] [] := by
  rw [eq_63]
  unfold G_63
  rfl
def G_64 (rec : Run) (r1 : List Row) (n2 : Int) : Option Res := bnd (rec 18 [MV.int IntKind.i64 n2] []) fun r => bnd (gBool r.1) fun b => br b (bnd (rec 112 [MV.int IntKind.i64 n2] []) fun r => bnd (gInt IntKind.i64 r.1) fun n => bnd (rowZ 1 r1 n) fun row => bnd (gStr (cellAt row 0)) fun s => some (MV.bool (bNot (kEq s (bs []))), [])) (some (MV.bool false, []))
theorem g_64 (D : Nat) (r1 : List Row) (n2 : Int) : G_64 (ev E LL D) r1 n2 = ev E LL (D + 1) 64 [.agg [.sl r1], .int .i64 n2] [] := by
  rw [eq_64]
  unfold G_64
  simp only [kEq_eq]
def G_65 (rec : Run) (r1 : List Row) (n2 : Int) : Option Res := bnd (rec 117 [MV.sl r1, MV.fn 118 [MV.ptr (H.imp 0) 0]] [Obj.cells [MV.int IntKind.i64 n2]]) fun r => bnd (gCellsN 1 (hdO r.2)) fun ns => bnd (gInt IntKind.i64 (cellAt ns 0)) fun n => bnd (gInt IntKind.i64 r.1) fun n => some (MV.int IntKind.i64 n, [])
theorem g_65 (D : Nat) (r1 : List Row) (n2 : Int) : G_65 (ev E LL D) r1 n2 = ev E LL (D + 1) 65 [.sl r1, .int .i64 n2] [] := by
  rw [eq_65]
  unfold G_65
  rfl
def G_66 (rec : Run) (s1 : ByteArray) : Option Res := br (iEq (nrows [[MV.str s1]]) (nrows [[MV.str s1]])) (bnd (rec 119 [MV.str (bs [107]), MV.sl [[MV.str s1]]] []) fun r => bnd (gStr r.1) fun s => some (MV.str s, [])) none
theorem g_66 (D : Nat) (s1 : ByteArray) : G_66 (ev E LL D) s1 = ev E LL (D + 1) 66 [.str s1] [] := by
  rw [eq_66]
  unfold G_66
  rfl
def G_67024 (rec : Run) (r1 : List Row) : Option Res := bnd (rec 120 [MV.sl r1, MV.fn 24 []] []) fun r => bnd (gInt IntKind.i64 r.1) fun n => some (MV.bool (iLe 0 n), [])
theorem g_67024 (D : Nat) (r1 : List Row) : G_67024 (ev E LL D) r1 = ev E LL (D + 1) 67 [.sl r1, .fn 24 []] [] := by
  rw [eq_67024]
  unfold G_67024
  rfl
def G_67026 (rec : Run) (r1 : List Row) : Option Res := bnd (rec 120 [MV.sl r1, MV.fn 26 []] []) fun r => bnd (gInt IntKind.i64 r.1) fun n => some (MV.bool (iLe 0 n), [])
theorem g_67026 (D : Nat) (r1 : List Row) : G_67026 (ev E LL D) r1 = ev E LL (D + 1) 67 [.sl r1, .fn 26 []] [] := by
  rw [eq_67026]
  unfold G_67026
  rfl
def G_68028 (rec : Run) (r1 : List Row) : Option Res := bnd (rec 121 [MV.sl r1, MV.fn 28 []] []) fun r => bnd (gInt IntKind.i64 r.1) fun n => some (MV.bool (iLe 0 n), [])
theorem g_68028 (D : Nat) (r1 : List Row) : G_68028 (ev E LL D) r1 = ev E LL (D + 1) 68 [.sl r1, .fn 28 []] [] := by
  rw [eq_68028]
  unfold G_68028
  rfl
def G_71031 (rec : Run) (r1 : List Row) : Option Res := bnd (rec 108 [MV.sl r1, MV.fn 31 []] []) fun r => bnd (gInt IntKind.i64 r.1) fun n => some (MV.bool (iLe 0 n), [])
theorem g_71031 (D : Nat) (r1 : List Row) : G_71031 (ev E LL D) r1 = ev E LL (D + 1) 71 [.sl r1, .fn 31 []] [] := by
  rw [eq_71031]
  unfold G_71031
  rfl
def G_72 (rec : Run) (s1 : ByteArray) : Option Res := br (iLt 300 (sLen s1)) (some (MV.agg [MV.int IntKind.i64 0, MV.int IntKind.i64 0, MV.int IntKind.i64 0, MV.str (bs []), MV.str (bs [])], [])) (bnd (rec 124 [MV.str s1] []) fun r => bnd (gTupN 3 r.1) fun vs => bnd (gAggN 5 (cellAt vs 0)) fun cs => bnd (gInt IntKind.i64 (cellAt cs 0)) fun n => bnd (gInt IntKind.i64 (cellAt cs 1)) fun n_1 => bnd (gInt IntKind.i64 (cellAt cs 2)) fun n_2 => bnd (gStr (cellAt cs 3)) fun s => bnd (gStr (cellAt cs 4)) fun s_1 => bnd (gStr (cellAt vs 1)) fun s_2 => bnd (gBool (cellAt vs 2)) fun b => br (bNot (bNot b)) (br (bNot (kEq s_2 (bs []))) (some (MV.agg [MV.int IntKind.i64 0, MV.int IntKind.i64 0, MV.int IntKind.i64 0, MV.str (bs []), MV.str (bs [])], [])) (some (MV.agg [MV.int IntKind.i64 n, MV.int IntKind.i64 n_1, MV.int IntKind.i64 n_2, MV.str s, MV.str s_1], []))) (some (MV.agg [MV.int IntKind.i64 0, MV.int IntKind.i64 0, MV.int IntKind.i64 0, MV.str (bs []), MV.str (bs [])], [])))
theorem g_72 (D : Nat) (s1 : ByteArray) : G_72 (ev E LL D) s1 = ev E LL (D + 1) 72 [.str s1] [] := by
  rw [eq_72]
  unfold G_72
  simp only [kEq_eq]
def G_73 (rec : Run) (n1 : Int) (n2 : Int) : Option Res := br (bNot (iEq n1 (-1))) (bnd (rec 18 [MV.int IntKind.i64 n1] []) fun r => bnd (gBool r.1) fun b => br b (some (MV.bool (bNot (iEq n1 n2)), [])) (some (MV.bool false, []))) (some (MV.bool true, []))
theorem g_73 (D : Nat) (n1 : Int) (n2 : Int) : G_73 (ev E LL D) n1 n2 = ev E LL (D + 1) 73 [.int .i64 n1, .int .i64 n2] [] := by
  rw [eq_73]
  unfold G_73
  rfl
def G_74 (rec : Run) (n1 : Int) (s2 : ByteArray) (s3 : ByteArray) : Option Res := br (iLt n1 0) (br (kEq s2 (bs [])) (some (MV.bool (kEq s3 (bs [])), [])) (some (MV.bool false, []))) (bnd (rec 116 [MV.str s2] []) fun r => bnd (gBool r.1) fun b => br b (bnd (rec 116 [MV.str s3] []) fun r => bnd (gBool r.1) fun b => br b (some (MV.bool (bNot (kEq s2 s3)), [])) (some (MV.bool false, []))) (some (MV.bool false, [])))
theorem g_74 (D : Nat) (n1 : Int) (s2 : ByteArray) (s3 : ByteArray) : G_74 (ev E LL D) n1 s2 s3 = ev E LL (D + 1) 74 [.int .i64 n1, .str s2, .str s3] [] := by
  rw [eq_74]
  unfold G_74
  simp only [kEq_eq]
def G_76115 (rec : Run) (r1 : List Row) : Option Res := bnd (rec 126 [MV.sl r1, MV.fn 115 []] []) fun r => bnd (gInt IntKind.i64 r.1) fun n => some (MV.bool (iLe 0 n), [])
theorem g_76115 (D : Nat) (r1 : List Row) : G_76115 (ev E LL D) r1 = ev E LL (D + 1) 76 [.sl r1, .fn 115 []] [] := by
  rw [eq_76115]
  unfold G_76115
  rfl
def G_93 (rec : Run) (b1 : Bool) (n2 : Int) (r3 : List Row) (r4 : List Row) (n5 : Int) (s6 : ByteArray) (s7 : ByteArray) : Option Res := bnd (rec 110 [MV.agg [MV.sl r3]] []) fun r => bnd (gAggN 1 r.1) fun cs => bnd (gOwn (cellAt cs 0)) fun r => bnd (rec 146 [MV.sl r4] []) fun r_1 => bnd (gOwn r_1.1) fun r_2 => br (iEq (nrows r) (nrows r)) (br (iEq (nrows r_2) (nrows r_2)) (some (MV.agg [MV.bool b1, MV.int IntKind.i64 n2, MV.sl r, MV.sl r_2, MV.int IntKind.i64 n5, MV.str s6, MV.str s7], [])) none) none
theorem g_93 (D : Nat) (b1 : Bool) (n2 : Int) (r3 : List Row) (r4 : List Row) (n5 : Int) (s6 : ByteArray) (s7 : ByteArray) : G_93 (ev E LL D) b1 n2 r3 r4 n5 s6 s7 = ev E LL (D + 1) 93 [.agg [.bool b1, .int .i64 n2, .sl r3, .sl r4, .int .i64 n5, .str s6, .str s7]] [] := by
  rw [eq_93]
  unfold G_93
  rfl
def B_94_3 (rec : Run) (self : List Row → Int → List Row → Int → Int → Option Res) (r0 : List Row) (i1 : Int) (r2 : List Row) (i3 : Int) (i4 : Int) : Option Res := br (iLt i4 i3) (bnd (rowZ 3 r2 i4) fun row => bnd (gStr (cellAt row 0)) fun s => bnd (gInt IntKind.i64 (cellAt row 1)) fun n_1 => bnd (gSl (cellAt row 2)) fun r => bnd (rec 88 [MV.sl r] []) fun r => bnd (gOwn r.1) fun r => br (iEq i1 (nrows r0)) (bnd (rowZ 3 r0 i4) fun x => br (iEq i1 (nrows r0)) (br (iEq (nrows r) (nrows r)) (br (iEq i1 (nrows r0)) (bnd (rowAt r0 i4) fun row => br (iLe 3 (rowLen row)) (self (setR r0 i4 (setRow row 2 [MV.sl r])) i1 r2 i3 (iAdd IntKind.i64 i4 1)) none) none) none) none) none) (br (iEq i1 (nrows r0)) (some (MV.own r0, [])) none)
def P_94_3 (rec : Run) (n : Nat) : List Row → Int → List Row → Int → Int → Option Res := Nat.rec (motive := fun _ => List Row → Int → List Row → Int → Int → Option Res) (fun _ _ _ _ _ => none) (fun _ self => B_94_3 rec self) n
theorem p_94_3 (D : Nat) : ∀ (n : Nat) (r0 : List Row) (i1 : Int) (r2 : List Row) (i3 : Int) (i4 : Int), P_94_3 (ev E LL D) n r0 i1 r2 i3 i4 = LP_94_3 LL D n  r0 i1 r2 i3 i4
  | 0, _, _, _, _, _ => by unfold LP_94_3 lp loopN; rfl
  | n + 1, r0, i1, r2, i3, i4 => by
    have ih : P_94_3 (ev E LL D) n = fun r0 i1 r2 i3 i4 => LP_94_3 LL D n  r0 i1 r2 i3 i4 := by funext r0 i1 r2 i3 i4; exact p_94_3 D n r0 i1 r2 i3 i4
    show B_94_3 (ev E LL D) (P_94_3 (ev E LL D) n) r0 i1 r2 i3 i4 = _
    rw [ih, LP_94_3_succ]
    unfold B_94_3
    rfl
def G_94 (rec : Run) (r1 : List Row) : Option Res := bnd (rec 147 [MV.sl r1] []) fun r => bnd (gOwn r.1) fun r => P_94_3 rec LL r (nrows r) r1 (nrows r1) 0
theorem g_94 (D : Nat) (r1 : List Row) : G_94 (ev E LL D) r1 = ev E LL (D + 1) 94 [.sl r1] [] := by
  rw [eq_94]
  unfold G_94
  simp only [p_94_3]
def G_95 (rec : Run) (r1 : List Row) (r2 : List Row) (r3 : List Row) (r4 : List Row) (r5 : List Row) (r6 : List Row) (r7 : List Row) (r8 : List Row) (r9 : List Row) (r10 : List Row) (n11 : Int) (n12 : Int) (n13 : Int) (n14 : Int) (n15 : Int) (s16 : ByteArray) : Option Res := br (iEq (nrows r3) (nrows r3)) (br (bNot (iEq (nrows r3) 16)) (br (iEq (nrows r4) (nrows r4)) (bnd (rowZ 1 r4 n12) fun x => br (iEq (nrows r4) (nrows r4)) (bnd (rowAt r4 n12) fun row => bnd (gInt IntKind.i64 (cellAt row 0)) fun n => br (bNot (iLe 99 n)) (bnd (rec 25 [MV.int IntKind.i64 n13, MV.int IntKind.i64 (-1), MV.int IntKind.i64 7] []) fun r => bnd (gBool r.1) fun b => br (bNot (bNot b)) (br (iLe 0 n13) (br (iEq (nrows r4) (nrows r4)) (bnd (rowZ 1 r4 n13) fun x => br (iEq (nrows r4) (nrows r4)) (bnd (rowAt r4 n13) fun row => bnd (gInt IntKind.i64 (cellAt row 0)) fun n => br (iLe 98 n) (br (iEq (nrows r1) (nrows r1)) (br (iEq (nrows r2) (nrows r2)) (br (iEq (nrows r3) (nrows r3)) (br (iEq (nrows r4) (nrows r4)) (br (iEq (nrows r5) (nrows r5)) (br (iEq (nrows r6) (nrows r6)) (br (iEq (nrows r7) (nrows r7)) (br (iEq (nrows r8) (nrows r8)) (br (iEq (nrows r9) (nrows r9)) (br (iEq (nrows r10) (nrows r10)) (some (MV.tup [], [Obj.cells [MV.own r1, MV.ownK r2, MV.own r3, MV.own r4, MV.own r5, MV.own r6, MV.own r7, MV.own r8, MV.own r9, MV.own r10]])) none) none) none) none) none) none) none) none) none) none) (br (iLe 0 n13) (br (iEq (nrows r4) (nrows r4)) (bnd (rowZ 1 r4 n13) fun x => br (iEq (nrows r4) (nrows r4)) (bnd (rowAt r4 n13) fun row => bnd (gInt IntKind.i64 (cellAt row 0)) fun n => bnd (rec 20 [MV.int IntKind.i64 n13, MV.int IntKind.i64 (iAdd IntKind.i64 n 1)] []) fun r => bnd (gStr r.1) fun s => br (iEq (nrows r4) (nrows r4)) (bnd (rowZ 1 r4 n13) fun x => br (iEq (nrows r4) (nrows r4)) (bnd (rowAt r4 n13) fun row => bnd (gInt IntKind.i64 (cellAt row 0)) fun n => bnd (rec 20 [MV.int IntKind.i64 n13, MV.int IntKind.i64 (iAdd IntKind.i64 n 2)] []) fun r => bnd (gStr r.1) fun s_1 => br (iEq (nrows r1) (nrows r1)) (bnd (rowZ 7 r1 n12) fun x => br (iEq (nrows r1) (nrows r1)) (bnd (rowAt r1 n12) fun row => bnd (gBool (cellAt row 0)) fun b => bnd (gInt IntKind.i64 (cellAt row 1)) fun n => bnd (gSl (cellAt row 2)) fun r => bnd (gSl (cellAt row 3)) fun r_1 => bnd (gInt IntKind.i64 (cellAt row 4)) fun n_1 => bnd (gStr (cellAt row 5)) fun s_2 => bnd (gStr (cellAt row 6)) fun s_3 => br (iEq (nrows r4) (nrows r4)) (bnd (rowZ 1 r4 n12) fun x => br (iEq (nrows r4) (nrows r4)) (bnd (rowAt r4 n12) fun row => bnd (gInt IntKind.i64 (cellAt row 0)) fun n_2 => bnd (rec 20 [MV.int IntKind.i64 n12, MV.int IntKind.i64 (iAdd IntKind.i64 n_2 1)] []) fun r_2 => bnd (gStr r_2.1) fun s_4 => bnd (rec 66 [MV.str s] []) fun r_3 => bnd (gStr r_3.1) fun s_5 => bnd (rec 66 [MV.str s_1] []) fun r_4 => bnd (gStr r_4.1) fun s_6 => bnd (rec 148 [MV.agg [MV.bool b, MV.int IntKind.i64 n, MV.sl r, MV.sl r_1, MV.int IntKind.i64 n_1, MV.str s_2, MV.str s_3], MV.str s_4, MV.int IntKind.i64 n13, MV.int IntKind.i64 n14, MV.str s_5, MV.str s_6] []) fun r => bnd (gTupN 3 r.1) fun vs => bnd (gAggN 7 (cellAt vs 0)) fun cs => bnd (gBool (cellAt cs 0)) fun b => bnd (gInt IntKind.i64 (cellAt cs 1)) fun n => bnd (gSl (cellAt cs 2)) fun r => bnd (gSl (cellAt cs 3)) fun r_5 => bnd (gInt IntKind.i64 (cellAt cs 4)) fun n_3 => bnd (gStr (cellAt cs 5)) fun s_7 => bnd (gStr (cellAt cs 6)) fun s_8 => bnd (gAggN 13 (cellAt vs 1)) fun cs => bnd (gInt IntKind.i64 (cellAt cs 0)) fun n_4 => bnd (gStr (cellAt cs 1)) fun s_9 => bnd (gStr (cellAt cs 2)) fun s_10 => bnd (gInt IntKind.i64 (cellAt cs 3)) fun n_5 => bnd (gInt IntKind.i64 (cellAt cs 4)) fun n_6 => bnd (gStr (cellAt cs 5)) fun s_11 => bnd (gSl (cellAt cs 6)) fun r_6 => bnd (gSl (cellAt cs 7)) fun r_7 => bnd (gStr (cellAt cs 8)) fun s_12 => bnd (gStr (cellAt cs 9)) fun s_13 => bnd (gStr (cellAt cs 10)) fun s_14 => bnd (gStr (cellAt cs 11)) fun s_15 => bnd (gStr (cellAt cs 12)) fun s_16 => bnd (gBool (cellAt vs 2)) fun b_1 => br (bNot b_1) (br (iEq (nrows r1) (nrows r1)) (br (iEq (nrows r2) (nrows r2)) (br (iEq (nrows r3) (nrows r3)) (br (iEq (nrows r4) (nrows r4)) (br (iEq (nrows r5) (nrows r5)) (br (iEq (nrows r6) (nrows r6)) (br (iEq (nrows r7) (nrows r7)) (br (iEq (nrows r8) (nrows r8)) (br (iEq (nrows r9) (nrows r9)) (br (iEq (nrows r10) (nrows r10)) (some (MV.tup [], [Obj.cells [MV.own r1, MV.ownK r2, MV.own r3, MV.own r4, MV.own r5, MV.own r6, MV.own r7, MV.own r8, MV.own r9, MV.own r10]])) none) none) none) none) none) none) none) none) none) none) (br (iEq (nrows r1) (nrows r1)) (bnd (rowZ 7 r1 n12) fun x => br (iEq (nrows r1) (nrows r1)) (bnd (rowAt r1 n12) fun row => br (iLe 7 (rowLen row)) (br (iEq (nrows r4) (nrows r4)) (bnd (rowZ 1 r4 n12) fun x => br (iEq (nrows r4) (nrows r4)) (bnd (rowAt r4 n12) fun row_1 => bnd (gInt IntKind.i64 (cellAt row_1 0)) fun n_7 => br (iEq (nrows r4) (nrows r4)) (bnd (rowZ 1 r4 n12) fun x => br (iEq (nrows r4) (nrows r4)) (bnd (rowAt r4 n12) fun row_2 => br (iLe 1 (rowLen row_2)) (br (iLe 0 n13) (br (iEq (nrows r4) (nrows (setR r4 n12 (setRow row_2 0 [MV.int IntKind.i64 (iAdd IntKind.i64 n_7 1)])))) (bnd (rowZ 1 (setR r4 n12 (setRow row_2 0 [MV.int IntKind.i64 (iAdd IntKind.i64 n_7 1)])) n13) fun x => br (iEq (nrows r4) (nrows (setR r4 n12 (setRow row_2 0 [MV.int IntKind.i64 (iAdd IntKind.i64 n_7 1)])))) (bnd (rowAt (setR r4 n12 (setRow row_2 0 [MV.int IntKind.i64 (iAdd IntKind.i64 n_7 1)])) n13) fun row_3 => bnd (gInt IntKind.i64 (cellAt row_3 0)) fun n_8 => br (iEq (nrows r4) (nrows (setR r4 n12 (setRow row_2 0 [MV.int IntKind.i64 (iAdd IntKind.i64 n_7 1)])))) (bnd (rowZ 1 (setR r4 n12 (setRow row_2 0 [MV.int IntKind.i64 (iAdd IntKind.i64 n_7 1)])) n13) fun x => br (iEq (nrows r4) (nrows (setR r4 n12 (setRow row_2 0 [MV.int IntKind.i64 (iAdd IntKind.i64 n_7 1)])))) (bnd (rowAt (setR r4 n12 (setRow row_2 0 [MV.int IntKind.i64 (iAdd IntKind.i64 n_7 1)])) n13) fun row_4 => br (iLe 1 (rowLen row_4)) (br (iEq (nrows r3) (nrows r3)) (br (iEq (nrows [[MV.int IntKind.i64 n13, MV.int IntKind.i64 (nrows r3), MV.str s, MV.str s_1]]) (nrows [[MV.int IntKind.i64 n13, MV.int IntKind.i64 (nrows r3), MV.str s, MV.str s_1]])) (br (bAnd (iEq (nrows r2) (nrows r2)) (bAnd (okR 4 r2) (bAnd (okR 4 [[MV.int IntKind.i64 n13, MV.int IntKind.i64 (nrows r3), MV.str s, MV.str s_1]]) (fits (nrows r2) (nrows [[MV.int IntKind.i64 n13, MV.int IntKind.i64 (nrows r3), MV.str s, MV.str s_1]]) 48)))) (br (iEq (nrows [[MV.int IntKind.i64 n_4, MV.str s_9, MV.str s_10, MV.int IntKind.i64 n_5, MV.int IntKind.i64 n_6, MV.str s_11, MV.sl r_6, MV.sl r_7, MV.str s_12, MV.str s_13, MV.str s_14, MV.str s_15, MV.str s_16]]) (nrows [[MV.int IntKind.i64 n_4, MV.str s_9, MV.str s_10, MV.int IntKind.i64 n_5, MV.int IntKind.i64 n_6, MV.str s_11, MV.sl r_6, MV.sl r_7, MV.str s_12, MV.str s_13, MV.str s_14, MV.str s_15, MV.str s_16]])) (br (bAnd (iEq (nrows r3) (nrows r3)) (bAnd (okR 13 r3) (bAnd (okR 13 [[MV.int IntKind.i64 n_4, MV.str s_9, MV.str s_10, MV.int IntKind.i64 n_5, MV.int IntKind.i64 n_6, MV.str s_11, MV.sl r_6, MV.sl r_7, MV.str s_12, MV.str s_13, MV.str s_14, MV.str s_15, MV.str s_16]]) (fits (nrows r3) (nrows [[MV.int IntKind.i64 n_4, MV.str s_9, MV.str s_10, MV.int IntKind.i64 n_5, MV.int IntKind.i64 n_6, MV.str s_11, MV.sl r_6, MV.sl r_7, MV.str s_12, MV.str s_13, MV.str s_14, MV.str s_15, MV.str s_16]]) 200)))) (br (iEq (nrows r1) (nrows (setR r1 n12 (setRow row 0 [MV.bool b, MV.int IntKind.i64 n, MV.sl r, MV.sl r_5, MV.int IntKind.i64 n_3, MV.str s_7, MV.str s_8])))) (br (iEq (nrows (catR r2 [[MV.int IntKind.i64 n13, MV.int IntKind.i64 (nrows r3), MV.str s, MV.str s_1]])) (nrows (catR r2 [[MV.int IntKind.i64 n13, MV.int IntKind.i64 (nrows r3), MV.str s, MV.str s_1]]))) (br (iEq (nrows (catR r3 [[MV.int IntKind.i64 n_4, MV.str s_9, MV.str s_10, MV.int IntKind.i64 n_5, MV.int IntKind.i64 n_6, MV.str s_11, MV.sl r_6, MV.sl r_7, MV.str s_12, MV.str s_13, MV.str s_14, MV.str s_15, MV.str s_16]])) (nrows (catR r3 [[MV.int IntKind.i64 n_4, MV.str s_9, MV.str s_10, MV.int IntKind.i64 n_5, MV.int IntKind.i64 n_6, MV.str s_11, MV.sl r_6, MV.sl r_7, MV.str s_12, MV.str s_13, MV.str s_14, MV.str s_15, MV.str s_16]]))) (br (iEq (nrows r4) (nrows (setR (setR r4 n12 (setRow row_2 0 [MV.int IntKind.i64 (iAdd IntKind.i64 n_7 1)])) n13 (setRow row_4 0 [MV.int IntKind.i64 (iAdd IntKind.i64 n_8 2)])))) (br (iEq (nrows r5) (nrows r5)) (br (iEq (nrows r6) (nrows r6)) (br (iEq (nrows r7) (nrows r7)) (br (iEq (nrows r8) (nrows r8)) (br (iEq (nrows r9) (nrows r9)) (br (iEq (nrows r10) (nrows r10)) (some (MV.tup [], [Obj.cells [MV.own (setR r1 n12 (setRow row 0 [MV.bool b, MV.int IntKind.i64 n, MV.sl r, MV.sl r_5, MV.int IntKind.i64 n_3, MV.str s_7, MV.str s_8])), MV.ownK (catR r2 [[MV.int IntKind.i64 n13, MV.int IntKind.i64 (nrows r3), MV.str s, MV.str s_1]]), MV.own (catR r3 [[MV.int IntKind.i64 n_4, MV.str s_9, MV.str s_10, MV.int IntKind.i64 n_5, MV.int IntKind.i64 n_6, MV.str s_11, MV.sl r_6, MV.sl r_7, MV.str s_12, MV.str s_13, MV.str s_14, MV.str s_15, MV.str s_16]]), MV.own (setR (setR r4 n12 (setRow row_2 0 [MV.int IntKind.i64 (iAdd IntKind.i64 n_7 1)])) n13 (setRow row_4 0 [MV.int IntKind.i64 (iAdd IntKind.i64 n_8 2)])), MV.own r5, MV.own r6, MV.own r7, MV.own r8, MV.own r9, MV.own r10]])) none) none) none) none) none) none) none) none) none) none) none) none) none) none) none) none) none) none) none) none) (br (iEq (nrows [[MV.int IntKind.i64 n_4, MV.str s_9, MV.str s_10, MV.int IntKind.i64 n_5, MV.int IntKind.i64 n_6, MV.str s_11, MV.sl r_6, MV.sl r_7, MV.str s_12, MV.str s_13, MV.str s_14, MV.str s_15, MV.str s_16]]) (nrows [[MV.int IntKind.i64 n_4, MV.str s_9, MV.str s_10, MV.int IntKind.i64 n_5, MV.int IntKind.i64 n_6, MV.str s_11, MV.sl r_6, MV.sl r_7, MV.str s_12, MV.str s_13, MV.str s_14, MV.str s_15, MV.str s_16]])) (br (bAnd (iEq (nrows r3) (nrows r3)) (bAnd (okR 13 r3) (bAnd (okR 13 [[MV.int IntKind.i64 n_4, MV.str s_9, MV.str s_10, MV.int IntKind.i64 n_5, MV.int IntKind.i64 n_6, MV.str s_11, MV.sl r_6, MV.sl r_7, MV.str s_12, MV.str s_13, MV.str s_14, MV.str s_15, MV.str s_16]]) (fits (nrows r3) (nrows [[MV.int IntKind.i64 n_4, MV.str s_9, MV.str s_10, MV.int IntKind.i64 n_5, MV.int IntKind.i64 n_6, MV.str s_11, MV.sl r_6, MV.sl r_7, MV.str s_12, MV.str s_13, MV.str s_14, MV.str s_15, MV.str s_16]]) 200)))) (br (iEq (nrows r1) (nrows (setR r1 n12 (setRow row 0 [MV.bool b, MV.int IntKind.i64 n, MV.sl r, MV.sl r_5, MV.int IntKind.i64 n_3, MV.str s_7, MV.str s_8])))) (br (iEq (nrows r2) (nrows r2)) (br (iEq (nrows (catR r3 [[MV.int IntKind.i64 n_4, MV.str s_9, MV.str s_10, MV.int IntKind.i64 n_5, MV.int IntKind.i64 n_6, MV.str s_11, MV.sl r_6, MV.sl r_7, MV.str s_12, MV.str s_13, MV.str s_14, MV.str s_15, MV.str s_16]])) (nrows (catR r3 [[MV.int IntKind.i64 n_4, MV.str s_9, MV.str s_10, MV.int IntKind.i64 n_5, MV.int IntKind.i64 n_6, MV.str s_11, MV.sl r_6, MV.sl r_7, MV.str s_12, MV.str s_13, MV.str s_14, MV.str s_15, MV.str s_16]]))) (br (iEq (nrows r4) (nrows (setR r4 n12 (setRow row_2 0 [MV.int IntKind.i64 (iAdd IntKind.i64 n_7 1)])))) (br (iEq (nrows r5) (nrows r5)) (br (iEq (nrows r6) (nrows r6)) (br (iEq (nrows r7) (nrows r7)) (br (iEq (nrows r8) (nrows r8)) (br (iEq (nrows r9) (nrows r9)) (br (iEq (nrows r10) (nrows r10)) (some (MV.tup [], [Obj.cells [MV.own (setR r1 n12 (setRow row 0 [MV.bool b, MV.int IntKind.i64 n, MV.sl r, MV.sl r_5, MV.int IntKind.i64 n_3, MV.str s_7, MV.str s_8])), MV.ownK r2, MV.own (catR r3 [[MV.int IntKind.i64 n_4, MV.str s_9, MV.str s_10, MV.int IntKind.i64 n_5, MV.int IntKind.i64 n_6, MV.str s_11, MV.sl r_6, MV.sl r_7, MV.str s_12, MV.str s_13, MV.str s_14, MV.str s_15, MV.str s_16]]), MV.own (setR r4 n12 (setRow row_2 0 [MV.int IntKind.i64 (iAdd IntKind.i64 n_7 1)])), MV.own r5, MV.own r6, MV.own r7, MV.own r8, MV.own r9, MV.own r10]])) none) none) none) none) none) none) none) none) none) none) none) none)) none) none) none) none) none) none) none) none)) none) none) none) none) none) none) none) none) (br (iEq (nrows r1) (nrows r1)) (bnd (rowZ 7 r1 n12) fun x => br (iEq (nrows r1) (nrows r1)) (bnd (rowAt r1 n12) fun row => bnd (gBool (cellAt row 0)) fun b => bnd (gInt IntKind.i64 (cellAt row 1)) fun n => bnd (gSl (cellAt row 2)) fun r => bnd (gSl (cellAt row 3)) fun r_1 => bnd (gInt IntKind.i64 (cellAt row 4)) fun n_1 => bnd (gStr (cellAt row 5)) fun s => bnd (gStr (cellAt row 6)) fun s_1 => br (iEq (nrows r4) (nrows r4)) (bnd (rowZ 1 r4 n12) fun x => br (iEq (nrows r4) (nrows r4)) (bnd (rowAt r4 n12) fun row => bnd (gInt IntKind.i64 (cellAt row 0)) fun n_2 => bnd (rec 20 [MV.int IntKind.i64 n12, MV.int IntKind.i64 (iAdd IntKind.i64 n_2 1)] []) fun r_2 => bnd (gStr r_2.1) fun s_2 => bnd (rec 66 [MV.str (bs [])] []) fun r_3 => bnd (gStr r_3.1) fun s_3 => bnd (rec 66 [MV.str (bs [])] []) fun r_4 => bnd (gStr r_4.1) fun s_4 => bnd (rec 148 [MV.agg [MV.bool b, MV.int IntKind.i64 n, MV.sl r, MV.sl r_1, MV.int IntKind.i64 n_1, MV.str s, MV.str s_1], MV.str s_2, MV.int IntKind.i64 n13, MV.int IntKind.i64 n14, MV.str s_3, MV.str s_4] []) fun r => bnd (gTupN 3 r.1) fun vs => bnd (gAggN 7 (cellAt vs 0)) fun cs => bnd (gBool (cellAt cs 0)) fun b => bnd (gInt IntKind.i64 (cellAt cs 1)) fun n => bnd (gSl (cellAt cs 2)) fun r => bnd (gSl (cellAt cs 3)) fun r_5 => bnd (gInt IntKind.i64 (cellAt cs 4)) fun n_3 => bnd (gStr (cellAt cs 5)) fun s => bnd (gStr (cellAt cs 6)) fun s_5 => bnd (gAggN 13 (cellAt vs 1)) fun cs => bnd (gInt IntKind.i64 (cellAt cs 0)) fun n_4 => bnd (gStr (cellAt cs 1)) fun s_6 => bnd (gStr (cellAt cs 2)) fun s_7 => bnd (gInt IntKind.i64 (cellAt cs 3)) fun n_5 => bnd (gInt IntKind.i64 (cellAt cs 4)) fun n_6 => bnd (gStr (cellAt cs 5)) fun s_8 => bnd (gSl (cellAt cs 6)) fun r_6 => bnd (gSl (cellAt cs 7)) fun r_7 => bnd (gStr (cellAt cs 8)) fun s_9 => bnd (gStr (cellAt cs 9)) fun s_10 => bnd (gStr (cellAt cs 10)) fun s_11 => bnd (gStr (cellAt cs 11)) fun s_12 => bnd (gStr (cellAt cs 12)) fun s_13 => bnd (gBool (cellAt vs 2)) fun b_1 => br (bNot b_1) (br (iEq (nrows r1) (nrows r1)) (br (iEq (nrows r2) (nrows r2)) (br (iEq (nrows r3) (nrows r3)) (br (iEq (nrows r4) (nrows r4)) (br (iEq (nrows r5) (nrows r5)) (br (iEq (nrows r6) (nrows r6)) (br (iEq (nrows r7) (nrows r7)) (br (iEq (nrows r8) (nrows r8)) (br (iEq (nrows r9) (nrows r9)) (br (iEq (nrows r10) (nrows r10)) (some (MV.tup [], [Obj.cells [MV.own r1, MV.ownK r2, MV.own r3, MV.own r4, MV.own r5, MV.own r6, MV.own r7, MV.own r8, MV.own r9, MV.own r10]])) none) none) none) none) none) none) none) none) none) none) (br (iEq (nrows r1) (nrows r1)) (bnd (rowZ 7 r1 n12) fun x => br (iEq (nrows r1) (nrows r1)) (bnd (rowAt r1 n12) fun row => br (iLe 7 (rowLen row)) (br (iEq (nrows r4) (nrows r4)) (bnd (rowZ 1 r4 n12) fun x => br (iEq (nrows r4) (nrows r4)) (bnd (rowAt r4 n12) fun row_1 => bnd (gInt IntKind.i64 (cellAt row_1 0)) fun n_7 => br (iEq (nrows r4) (nrows r4)) (bnd (rowZ 1 r4 n12) fun x => br (iEq (nrows r4) (nrows r4)) (bnd (rowAt r4 n12) fun row_2 => br (iLe 1 (rowLen row_2)) (br (iLe 0 n13) (br (iEq (nrows r4) (nrows (setR r4 n12 (setRow row_2 0 [MV.int IntKind.i64 (iAdd IntKind.i64 n_7 1)])))) (bnd (rowZ 1 (setR r4 n12 (setRow row_2 0 [MV.int IntKind.i64 (iAdd IntKind.i64 n_7 1)])) n13) fun x => br (iEq (nrows r4) (nrows (setR r4 n12 (setRow row_2 0 [MV.int IntKind.i64 (iAdd IntKind.i64 n_7 1)])))) (bnd (rowAt (setR r4 n12 (setRow row_2 0 [MV.int IntKind.i64 (iAdd IntKind.i64 n_7 1)])) n13) fun row_3 => bnd (gInt IntKind.i64 (cellAt row_3 0)) fun n_8 => br (iEq (nrows r4) (nrows (setR r4 n12 (setRow row_2 0 [MV.int IntKind.i64 (iAdd IntKind.i64 n_7 1)])))) (bnd (rowZ 1 (setR r4 n12 (setRow row_2 0 [MV.int IntKind.i64 (iAdd IntKind.i64 n_7 1)])) n13) fun x => br (iEq (nrows r4) (nrows (setR r4 n12 (setRow row_2 0 [MV.int IntKind.i64 (iAdd IntKind.i64 n_7 1)])))) (bnd (rowAt (setR r4 n12 (setRow row_2 0 [MV.int IntKind.i64 (iAdd IntKind.i64 n_7 1)])) n13) fun row_4 => br (iLe 1 (rowLen row_4)) (br (iEq (nrows r3) (nrows r3)) (br (iEq (nrows [[MV.int IntKind.i64 n13, MV.int IntKind.i64 (nrows r3), MV.str (bs []), MV.str (bs [])]]) (nrows [[MV.int IntKind.i64 n13, MV.int IntKind.i64 (nrows r3), MV.str (bs []), MV.str (bs [])]])) (br (bAnd (iEq (nrows r2) (nrows r2)) (bAnd (okR 4 r2) (bAnd (okR 4 [[MV.int IntKind.i64 n13, MV.int IntKind.i64 (nrows r3), MV.str (bs []), MV.str (bs [])]]) (fits (nrows r2) (nrows [[MV.int IntKind.i64 n13, MV.int IntKind.i64 (nrows r3), MV.str (bs []), MV.str (bs [])]]) 48)))) (br (iEq (nrows [[MV.int IntKind.i64 n_4, MV.str s_6, MV.str s_7, MV.int IntKind.i64 n_5, MV.int IntKind.i64 n_6, MV.str s_8, MV.sl r_6, MV.sl r_7, MV.str s_9, MV.str s_10, MV.str s_11, MV.str s_12, MV.str s_13]]) (nrows [[MV.int IntKind.i64 n_4, MV.str s_6, MV.str s_7, MV.int IntKind.i64 n_5, MV.int IntKind.i64 n_6, MV.str s_8, MV.sl r_6, MV.sl r_7, MV.str s_9, MV.str s_10, MV.str s_11, MV.str s_12, MV.str s_13]])) (br (bAnd (iEq (nrows r3) (nrows r3)) (bAnd (okR 13 r3) (bAnd (okR 13 [[MV.int IntKind.i64 n_4, MV.str s_6, MV.str s_7, MV.int IntKind.i64 n_5, MV.int IntKind.i64 n_6, MV.str s_8, MV.sl r_6, MV.sl r_7, MV.str s_9, MV.str s_10, MV.str s_11, MV.str s_12, MV.str s_13]]) (fits (nrows r3) (nrows [[MV.int IntKind.i64 n_4, MV.str s_6, MV.str s_7, MV.int IntKind.i64 n_5, MV.int IntKind.i64 n_6, MV.str s_8, MV.sl r_6, MV.sl r_7, MV.str s_9, MV.str s_10, MV.str s_11, MV.str s_12, MV.str s_13]]) 200)))) (br (iEq (nrows r1) (nrows (setR r1 n12 (setRow row 0 [MV.bool b, MV.int IntKind.i64 n, MV.sl r, MV.sl r_5, MV.int IntKind.i64 n_3, MV.str s, MV.str s_5])))) (br (iEq (nrows (catR r2 [[MV.int IntKind.i64 n13, MV.int IntKind.i64 (nrows r3), MV.str (bs []), MV.str (bs [])]])) (nrows (catR r2 [[MV.int IntKind.i64 n13, MV.int IntKind.i64 (nrows r3), MV.str (bs []), MV.str (bs [])]]))) (br (iEq (nrows (catR r3 [[MV.int IntKind.i64 n_4, MV.str s_6, MV.str s_7, MV.int IntKind.i64 n_5, MV.int IntKind.i64 n_6, MV.str s_8, MV.sl r_6, MV.sl r_7, MV.str s_9, MV.str s_10, MV.str s_11, MV.str s_12, MV.str s_13]])) (nrows (catR r3 [[MV.int IntKind.i64 n_4, MV.str s_6, MV.str s_7, MV.int IntKind.i64 n_5, MV.int IntKind.i64 n_6, MV.str s_8, MV.sl r_6, MV.sl r_7, MV.str s_9, MV.str s_10, MV.str s_11, MV.str s_12, MV.str s_13]]))) (br (iEq (nrows r4) (nrows (setR (setR r4 n12 (setRow row_2 0 [MV.int IntKind.i64 (iAdd IntKind.i64 n_7 1)])) n13 (setRow row_4 0 [MV.int IntKind.i64 (iAdd IntKind.i64 n_8 2)])))) (br (iEq (nrows r5) (nrows r5)) (br (iEq (nrows r6) (nrows r6)) (br (iEq (nrows r7) (nrows r7)) (br (iEq (nrows r8) (nrows r8)) (br (iEq (nrows r9) (nrows r9)) (br (iEq (nrows r10) (nrows r10)) (some (MV.tup [], [Obj.cells [MV.own (setR r1 n12 (setRow row 0 [MV.bool b, MV.int IntKind.i64 n, MV.sl r, MV.sl r_5, MV.int IntKind.i64 n_3, MV.str s, MV.str s_5])), MV.ownK (catR r2 [[MV.int IntKind.i64 n13, MV.int IntKind.i64 (nrows r3), MV.str (bs []), MV.str (bs [])]]), MV.own (catR r3 [[MV.int IntKind.i64 n_4, MV.str s_6, MV.str s_7, MV.int IntKind.i64 n_5, MV.int IntKind.i64 n_6, MV.str s_8, MV.sl r_6, MV.sl r_7, MV.str s_9, MV.str s_10, MV.str s_11, MV.str s_12, MV.str s_13]]), MV.own (setR (setR r4 n12 (setRow row_2 0 [MV.int IntKind.i64 (iAdd IntKind.i64 n_7 1)])) n13 (setRow row_4 0 [MV.int IntKind.i64 (iAdd IntKind.i64 n_8 2)])), MV.own r5, MV.own r6, MV.own r7, MV.own r8, MV.own r9, MV.own r10]])) none) none) none) none) none) none) none) none) none) none) none) none) none) none) none) none) none) none) none) none) (br (iEq (nrows [[MV.int IntKind.i64 n_4, MV.str s_6, MV.str s_7, MV.int IntKind.i64 n_5, MV.int IntKind.i64 n_6, MV.str s_8, MV.sl r_6, MV.sl r_7, MV.str s_9, MV.str s_10, MV.str s_11, MV.str s_12, MV.str s_13]]) (nrows [[MV.int IntKind.i64 n_4, MV.str s_6, MV.str s_7, MV.int IntKind.i64 n_5, MV.int IntKind.i64 n_6, MV.str s_8, MV.sl r_6, MV.sl r_7, MV.str s_9, MV.str s_10, MV.str s_11, MV.str s_12, MV.str s_13]])) (br (bAnd (iEq (nrows r3) (nrows r3)) (bAnd (okR 13 r3) (bAnd (okR 13 [[MV.int IntKind.i64 n_4, MV.str s_6, MV.str s_7, MV.int IntKind.i64 n_5, MV.int IntKind.i64 n_6, MV.str s_8, MV.sl r_6, MV.sl r_7, MV.str s_9, MV.str s_10, MV.str s_11, MV.str s_12, MV.str s_13]]) (fits (nrows r3) (nrows [[MV.int IntKind.i64 n_4, MV.str s_6, MV.str s_7, MV.int IntKind.i64 n_5, MV.int IntKind.i64 n_6, MV.str s_8, MV.sl r_6, MV.sl r_7, MV.str s_9, MV.str s_10, MV.str s_11, MV.str s_12, MV.str s_13]]) 200)))) (br (iEq (nrows r1) (nrows (setR r1 n12 (setRow row 0 [MV.bool b, MV.int IntKind.i64 n, MV.sl r, MV.sl r_5, MV.int IntKind.i64 n_3, MV.str s, MV.str s_5])))) (br (iEq (nrows r2) (nrows r2)) (br (iEq (nrows (catR r3 [[MV.int IntKind.i64 n_4, MV.str s_6, MV.str s_7, MV.int IntKind.i64 n_5, MV.int IntKind.i64 n_6, MV.str s_8, MV.sl r_6, MV.sl r_7, MV.str s_9, MV.str s_10, MV.str s_11, MV.str s_12, MV.str s_13]])) (nrows (catR r3 [[MV.int IntKind.i64 n_4, MV.str s_6, MV.str s_7, MV.int IntKind.i64 n_5, MV.int IntKind.i64 n_6, MV.str s_8, MV.sl r_6, MV.sl r_7, MV.str s_9, MV.str s_10, MV.str s_11, MV.str s_12, MV.str s_13]]))) (br (iEq (nrows r4) (nrows (setR r4 n12 (setRow row_2 0 [MV.int IntKind.i64 (iAdd IntKind.i64 n_7 1)])))) (br (iEq (nrows r5) (nrows r5)) (br (iEq (nrows r6) (nrows r6)) (br (iEq (nrows r7) (nrows r7)) (br (iEq (nrows r8) (nrows r8)) (br (iEq (nrows r9) (nrows r9)) (br (iEq (nrows r10) (nrows r10)) (some (MV.tup [], [Obj.cells [MV.own (setR r1 n12 (setRow row 0 [MV.bool b, MV.int IntKind.i64 n, MV.sl r, MV.sl r_5, MV.int IntKind.i64 n_3, MV.str s, MV.str s_5])), MV.ownK r2, MV.own (catR r3 [[MV.int IntKind.i64 n_4, MV.str s_6, MV.str s_7, MV.int IntKind.i64 n_5, MV.int IntKind.i64 n_6, MV.str s_8, MV.sl r_6, MV.sl r_7, MV.str s_9, MV.str s_10, MV.str s_11, MV.str s_12, MV.str s_13]]), MV.own (setR r4 n12 (setRow row_2 0 [MV.int IntKind.i64 (iAdd IntKind.i64 n_7 1)])), MV.own r5, MV.own r6, MV.own r7, MV.own r8, MV.own r9, MV.own r10]])) none) none) none) none) none) none) none) none) none) none) none) none)) none) none) none) none) none) none) none) none)) none) none) none) none))) none) none) (br (iLe 0 n13) (br (iEq (nrows r4) (nrows r4)) (bnd (rowZ 1 r4 n13) fun x => br (iEq (nrows r4) (nrows r4)) (bnd (rowAt r4 n13) fun row => bnd (gInt IntKind.i64 (cellAt row 0)) fun n => bnd (rec 20 [MV.int IntKind.i64 n13, MV.int IntKind.i64 (iAdd IntKind.i64 n 1)] []) fun r => bnd (gStr r.1) fun s => br (iEq (nrows r4) (nrows r4)) (bnd (rowZ 1 r4 n13) fun x => br (iEq (nrows r4) (nrows r4)) (bnd (rowAt r4 n13) fun row => bnd (gInt IntKind.i64 (cellAt row 0)) fun n => bnd (rec 20 [MV.int IntKind.i64 n13, MV.int IntKind.i64 (iAdd IntKind.i64 n 2)] []) fun r => bnd (gStr r.1) fun s_1 => br (iEq (nrows r1) (nrows r1)) (bnd (rowZ 7 r1 n12) fun x => br (iEq (nrows r1) (nrows r1)) (bnd (rowAt r1 n12) fun row => bnd (gBool (cellAt row 0)) fun b => bnd (gInt IntKind.i64 (cellAt row 1)) fun n => bnd (gSl (cellAt row 2)) fun r => bnd (gSl (cellAt row 3)) fun r_1 => bnd (gInt IntKind.i64 (cellAt row 4)) fun n_1 => bnd (gStr (cellAt row 5)) fun s_2 => bnd (gStr (cellAt row 6)) fun s_3 => br (iEq (nrows r4) (nrows r4)) (bnd (rowZ 1 r4 n12) fun x => br (iEq (nrows r4) (nrows r4)) (bnd (rowAt r4 n12) fun row => bnd (gInt IntKind.i64 (cellAt row 0)) fun n_2 => bnd (rec 20 [MV.int IntKind.i64 n12, MV.int IntKind.i64 (iAdd IntKind.i64 n_2 1)] []) fun r_2 => bnd (gStr r_2.1) fun s_4 => bnd (rec 66 [MV.str s] []) fun r_3 => bnd (gStr r_3.1) fun s_5 => bnd (rec 66 [MV.str s_1] []) fun r_4 => bnd (gStr r_4.1) fun s_6 => bnd (rec 148 [MV.agg [MV.bool b, MV.int IntKind.i64 n, MV.sl r, MV.sl r_1, MV.int IntKind.i64 n_1, MV.str s_2, MV.str s_3], MV.str s_4, MV.int IntKind.i64 n13, MV.int IntKind.i64 n14, MV.str s_5, MV.str s_6] []) fun r => bnd (gTupN 3 r.1) fun vs => bnd (gAggN 7 (cellAt vs 0)) fun cs => bnd (gBool (cellAt cs 0)) fun b => bnd (gInt IntKind.i64 (cellAt cs 1)) fun n => bnd (gSl (cellAt cs 2)) fun r => bnd (gSl (cellAt cs 3)) fun r_5 => bnd (gInt IntKind.i64 (cellAt cs 4)) fun n_3 => bnd (gStr (cellAt cs 5)) fun s_7 => bnd (gStr (cellAt cs 6)) fun s_8 => bnd (gAggN 13 (cellAt vs 1)) fun cs => bnd (gInt IntKind.i64 (cellAt cs 0)) fun n_4 => bnd (gStr (cellAt cs 1)) fun s_9 => bnd (gStr (cellAt cs 2)) fun s_10 => bnd (gInt IntKind.i64 (cellAt cs 3)) fun n_5 => bnd (gInt IntKind.i64 (cellAt cs 4)) fun n_6 => bnd (gStr (cellAt cs 5)) fun s_11 => bnd (gSl (cellAt cs 6)) fun r_6 => bnd (gSl (cellAt cs 7)) fun r_7 => bnd (gStr (cellAt cs 8)) fun s_12 => bnd (gStr (cellAt cs 9)) fun s_13 => bnd (gStr (cellAt cs 10)) fun s_14 => bnd (gStr (cellAt cs 11)) fun s_15 => bnd (gStr (cellAt cs 12)) fun s_16 => bnd (gBool (cellAt vs 2)) fun b_1 => br (bNot b_1) (br (iEq (nrows r1) (nrows r1)) (br (iEq (nrows r2) (nrows r2)) (br (iEq (nrows r3) (nrows r3)) (br (iEq (nrows r4) (nrows r4)) (br (iEq (nrows r5) (nrows r5)) (br (iEq (nrows r6) (nrows r6)) (br (iEq (nrows r7) (nrows r7)) (br (iEq (nrows r8) (nrows r8)) (br (iEq (nrows r9) (nrows r9)) (br (iEq (nrows r10) (nrows r10)) (some (MV.tup [], [Obj.cells [MV.own r1, MV.ownK r2, MV.own r3, MV.own r4, MV.own r5, MV.own r6, MV.own r7, MV.own r8, MV.own r9, MV.own r10]])) none) none) none) none) none) none) none) none) none) none) (br (iEq (nrows r1) (nrows r1)) (bnd (rowZ 7 r1 n12) fun x => br (iEq (nrows r1) (nrows r1)) (bnd (rowAt r1 n12) fun row => br (iLe 7 (rowLen row)) (br (iEq (nrows r4) (nrows r4)) (bnd (rowZ 1 r4 n12) fun x => br (iEq (nrows r4) (nrows r4)) (bnd (rowAt r4 n12) fun row_1 => bnd (gInt IntKind.i64 (cellAt row_1 0)) fun n_7 => br (iEq (nrows r4) (nrows r4)) (bnd (rowZ 1 r4 n12) fun x => br (iEq (nrows r4) (nrows r4)) (bnd (rowAt r4 n12) fun row_2 => br (iLe 1 (rowLen row_2)) (br (iLe 0 n13) (br (iEq (nrows r4) (nrows (setR r4 n12 (setRow row_2 0 [MV.int IntKind.i64 (iAdd IntKind.i64 n_7 1)])))) (bnd (rowZ 1 (setR r4 n12 (setRow row_2 0 [MV.int IntKind.i64 (iAdd IntKind.i64 n_7 1)])) n13) fun x => br (iEq (nrows r4) (nrows (setR r4 n12 (setRow row_2 0 [MV.int IntKind.i64 (iAdd IntKind.i64 n_7 1)])))) (bnd (rowAt (setR r4 n12 (setRow row_2 0 [MV.int IntKind.i64 (iAdd IntKind.i64 n_7 1)])) n13) fun row_3 => bnd (gInt IntKind.i64 (cellAt row_3 0)) fun n_8 => br (iEq (nrows r4) (nrows (setR r4 n12 (setRow row_2 0 [MV.int IntKind.i64 (iAdd IntKind.i64 n_7 1)])))) (bnd (rowZ 1 (setR r4 n12 (setRow row_2 0 [MV.int IntKind.i64 (iAdd IntKind.i64 n_7 1)])) n13) fun x => br (iEq (nrows r4) (nrows (setR r4 n12 (setRow row_2 0 [MV.int IntKind.i64 (iAdd IntKind.i64 n_7 1)])))) (bnd (rowAt (setR r4 n12 (setRow row_2 0 [MV.int IntKind.i64 (iAdd IntKind.i64 n_7 1)])) n13) fun row_4 => br (iLe 1 (rowLen row_4)) (br (iEq (nrows r3) (nrows r3)) (br (iEq (nrows [[MV.int IntKind.i64 n13, MV.int IntKind.i64 (nrows r3), MV.str s, MV.str s_1]]) (nrows [[MV.int IntKind.i64 n13, MV.int IntKind.i64 (nrows r3), MV.str s, MV.str s_1]])) (br (bAnd (iEq (nrows r2) (nrows r2)) (bAnd (okR 4 r2) (bAnd (okR 4 [[MV.int IntKind.i64 n13, MV.int IntKind.i64 (nrows r3), MV.str s, MV.str s_1]]) (fits (nrows r2) (nrows [[MV.int IntKind.i64 n13, MV.int IntKind.i64 (nrows r3), MV.str s, MV.str s_1]]) 48)))) (br (iEq (nrows [[MV.int IntKind.i64 n_4, MV.str s_9, MV.str s_10, MV.int IntKind.i64 n_5, MV.int IntKind.i64 n_6, MV.str s_11, MV.sl r_6, MV.sl r_7, MV.str s_12, MV.str s_13, MV.str s_14, MV.str s_15, MV.str s_16]]) (nrows [[MV.int IntKind.i64 n_4, MV.str s_9, MV.str s_10, MV.int IntKind.i64 n_5, MV.int IntKind.i64 n_6, MV.str s_11, MV.sl r_6, MV.sl r_7, MV.str s_12, MV.str s_13, MV.str s_14, MV.str s_15, MV.str s_16]])) (br (bAnd (iEq (nrows r3) (nrows r3)) (bAnd (okR 13 r3) (bAnd (okR 13 [[MV.int IntKind.i64 n_4, MV.str s_9, MV.str s_10, MV.int IntKind.i64 n_5, MV.int IntKind.i64 n_6, MV.str s_11, MV.sl r_6, MV.sl r_7, MV.str s_12, MV.str s_13, MV.str s_14, MV.str s_15, MV.str s_16]]) (fits (nrows r3) (nrows [[MV.int IntKind.i64 n_4, MV.str s_9, MV.str s_10, MV.int IntKind.i64 n_5, MV.int IntKind.i64 n_6, MV.str s_11, MV.sl r_6, MV.sl r_7, MV.str s_12, MV.str s_13, MV.str s_14, MV.str s_15, MV.str s_16]]) 200)))) (br (iEq (nrows r1) (nrows (setR r1 n12 (setRow row 0 [MV.bool b, MV.int IntKind.i64 n, MV.sl r, MV.sl r_5, MV.int IntKind.i64 n_3, MV.str s_7, MV.str s_8])))) (br (iEq (nrows (catR r2 [[MV.int IntKind.i64 n13, MV.int IntKind.i64 (nrows r3), MV.str s, MV.str s_1]])) (nrows (catR r2 [[MV.int IntKind.i64 n13, MV.int IntKind.i64 (nrows r3), MV.str s, MV.str s_1]]))) (br (iEq (nrows (catR r3 [[MV.int IntKind.i64 n_4, MV.str s_9, MV.str s_10, MV.int IntKind.i64 n_5, MV.int IntKind.i64 n_6, MV.str s_11, MV.sl r_6, MV.sl r_7, MV.str s_12, MV.str s_13, MV.str s_14, MV.str s_15, MV.str s_16]])) (nrows (catR r3 [[MV.int IntKind.i64 n_4, MV.str s_9, MV.str s_10, MV.int IntKind.i64 n_5, MV.int IntKind.i64 n_6, MV.str s_11, MV.sl r_6, MV.sl r_7, MV.str s_12, MV.str s_13, MV.str s_14, MV.str s_15, MV.str s_16]]))) (br (iEq (nrows r4) (nrows (setR (setR r4 n12 (setRow row_2 0 [MV.int IntKind.i64 (iAdd IntKind.i64 n_7 1)])) n13 (setRow row_4 0 [MV.int IntKind.i64 (iAdd IntKind.i64 n_8 2)])))) (br (iEq (nrows r5) (nrows r5)) (br (iEq (nrows r6) (nrows r6)) (br (iEq (nrows r7) (nrows r7)) (br (iEq (nrows r8) (nrows r8)) (br (iEq (nrows r9) (nrows r9)) (br (iEq (nrows r10) (nrows r10)) (some (MV.tup [], [Obj.cells [MV.own (setR r1 n12 (setRow row 0 [MV.bool b, MV.int IntKind.i64 n, MV.sl r, MV.sl r_5, MV.int IntKind.i64 n_3, MV.str s_7, MV.str s_8])), MV.ownK (catR r2 [[MV.int IntKind.i64 n13, MV.int IntKind.i64 (nrows r3), MV.str s, MV.str s_1]]), MV.own (catR r3 [[MV.int IntKind.i64 n_4, MV.str s_9, MV.str s_10, MV.int IntKind.i64 n_5, MV.int IntKind.i64 n_6, MV.str s_11, MV.sl r_6, MV.sl r_7, MV.str s_12, MV.str s_13, MV.str s_14, MV.str s_15, MV.str s_16]]), MV.own (setR (setR r4 n12 (setRow row_2 0 [MV.int IntKind.i64 (iAdd IntKind.i64 n_7 1)])) n13 (setRow row_4 0 [MV.int IntKind.i64 (iAdd IntKind.i64 n_8 2)])), MV.own r5, MV.own r6, MV.own r7, MV.own r8, MV.own r9, MV.own r10]])) none) none) none) none) none) none) none) none) none) none) none) none) none) none) none) none) none) none) none) none) (br (iEq (nrows [[MV.int IntKind.i64 n_4, MV.str s_9, MV.str s_10, MV.int IntKind.i64 n_5, MV.int IntKind.i64 n_6, MV.str s_11, MV.sl r_6, MV.sl r_7, MV.str s_12, MV.str s_13, MV.str s_14, MV.str s_15, MV.str s_16]]) (nrows [[MV.int IntKind.i64 n_4, MV.str s_9, MV.str s_10, MV.int IntKind.i64 n_5, MV.int IntKind.i64 n_6, MV.str s_11, MV.sl r_6, MV.sl r_7, MV.str s_12, MV.str s_13, MV.str s_14, MV.str s_15, MV.str s_16]])) (br (bAnd (iEq (nrows r3) (nrows r3)) (bAnd (okR 13 r3) (bAnd (okR 13 [[MV.int IntKind.i64 n_4, MV.str s_9, MV.str s_10, MV.int IntKind.i64 n_5, MV.int IntKind.i64 n_6, MV.str s_11, MV.sl r_6, MV.sl r_7, MV.str s_12, MV.str s_13, MV.str s_14, MV.str s_15, MV.str s_16]]) (fits (nrows r3) (nrows [[MV.int IntKind.i64 n_4, MV.str s_9, MV.str s_10, MV.int IntKind.i64 n_5, MV.int IntKind.i64 n_6, MV.str s_11, MV.sl r_6, MV.sl r_7, MV.str s_12, MV.str s_13, MV.str s_14, MV.str s_15, MV.str s_16]]) 200)))) (br (iEq (nrows r1) (nrows (setR r1 n12 (setRow row 0 [MV.bool b, MV.int IntKind.i64 n, MV.sl r, MV.sl r_5, MV.int IntKind.i64 n_3, MV.str s_7, MV.str s_8])))) (br (iEq (nrows r2) (nrows r2)) (br (iEq (nrows (catR r3 [[MV.int IntKind.i64 n_4, MV.str s_9, MV.str s_10, MV.int IntKind.i64 n_5, MV.int IntKind.i64 n_6, MV.str s_11, MV.sl r_6, MV.sl r_7, MV.str s_12, MV.str s_13, MV.str s_14, MV.str s_15, MV.str s_16]])) (nrows (catR r3 [[MV.int IntKind.i64 n_4, MV.str s_9, MV.str s_10, MV.int IntKind.i64 n_5, MV.int IntKind.i64 n_6, MV.str s_11, MV.sl r_6, MV.sl r_7, MV.str s_12, MV.str s_13, MV.str s_14, MV.str s_15, MV.str s_16]]))) (br (iEq (nrows r4) (nrows (setR r4 n12 (setRow row_2 0 [MV.int IntKind.i64 (iAdd IntKind.i64 n_7 1)])))) (br (iEq (nrows r5) (nrows r5)) (br (iEq (nrows r6) (nrows r6)) (br (iEq (nrows r7) (nrows r7)) (br (iEq (nrows r8) (nrows r8)) (br (iEq (nrows r9) (nrows r9)) (br (iEq (nrows r10) (nrows r10)) (some (MV.tup [], [Obj.cells [MV.own (setR r1 n12 (setRow row 0 [MV.bool b, MV.int IntKind.i64 n, MV.sl r, MV.sl r_5, MV.int IntKind.i64 n_3, MV.str s_7, MV.str s_8])), MV.ownK r2, MV.own (catR r3 [[MV.int IntKind.i64 n_4, MV.str s_9, MV.str s_10, MV.int IntKind.i64 n_5, MV.int IntKind.i64 n_6, MV.str s_11, MV.sl r_6, MV.sl r_7, MV.str s_12, MV.str s_13, MV.str s_14, MV.str s_15, MV.str s_16]]), MV.own (setR r4 n12 (setRow row_2 0 [MV.int IntKind.i64 (iAdd IntKind.i64 n_7 1)])), MV.own r5, MV.own r6, MV.own r7, MV.own r8, MV.own r9, MV.own r10]])) none) none) none) none) none) none) none) none) none) none) none) none)) none) none) none) none) none) none) none) none)) none) none) none) none) none) none) none) none) (br (iEq (nrows r1) (nrows r1)) (bnd (rowZ 7 r1 n12) fun x => br (iEq (nrows r1) (nrows r1)) (bnd (rowAt r1 n12) fun row => bnd (gBool (cellAt row 0)) fun b => bnd (gInt IntKind.i64 (cellAt row 1)) fun n => bnd (gSl (cellAt row 2)) fun r => bnd (gSl (cellAt row 3)) fun r_1 => bnd (gInt IntKind.i64 (cellAt row 4)) fun n_1 => bnd (gStr (cellAt row 5)) fun s => bnd (gStr (cellAt row 6)) fun s_1 => br (iEq (nrows r4) (nrows r4)) (bnd (rowZ 1 r4 n12) fun x => br (iEq (nrows r4) (nrows r4)) (bnd (rowAt r4 n12) fun row => bnd (gInt IntKind.i64 (cellAt row 0)) fun n_2 => bnd (rec 20 [MV.int IntKind.i64 n12, MV.int IntKind.i64 (iAdd IntKind.i64 n_2 1)] []) fun r_2 => bnd (gStr r_2.1) fun s_2 => bnd (rec 66 [MV.str (bs [])] []) fun r_3 => bnd (gStr r_3.1) fun s_3 => bnd (rec 66 [MV.str (bs [])] []) fun r_4 => bnd (gStr r_4.1) fun s_4 => bnd (rec 148 [MV.agg [MV.bool b, MV.int IntKind.i64 n, MV.sl r, MV.sl r_1, MV.int IntKind.i64 n_1, MV.str s, MV.str s_1], MV.str s_2, MV.int IntKind.i64 n13, MV.int IntKind.i64 n14, MV.str s_3, MV.str s_4] []) fun r => bnd (gTupN 3 r.1) fun vs => bnd (gAggN 7 (cellAt vs 0)) fun cs => bnd (gBool (cellAt cs 0)) fun b => bnd (gInt IntKind.i64 (cellAt cs 1)) fun n => bnd (gSl (cellAt cs 2)) fun r => bnd (gSl (cellAt cs 3)) fun r_5 => bnd (gInt IntKind.i64 (cellAt cs 4)) fun n_3 => bnd (gStr (cellAt cs 5)) fun s => bnd (gStr (cellAt cs 6)) fun s_5 => bnd (gAggN 13 (cellAt vs 1)) fun cs => bnd (gInt IntKind.i64 (cellAt cs 0)) fun n_4 => bnd (gStr (cellAt cs 1)) fun s_6 => bnd (gStr (cellAt cs 2)) fun s_7 => bnd (gInt IntKind.i64 (cellAt cs 3)) fun n_5 => bnd (gInt IntKind.i64 (cellAt cs 4)) fun n_6 => bnd (gStr (cellAt cs 5)) fun s_8 => bnd (gSl (cellAt cs 6)) fun r_6 => bnd (gSl (cellAt cs 7)) fun r_7 => bnd (gStr (cellAt cs 8)) fun s_9 => bnd (gStr (cellAt cs 9)) fun s_10 => bnd (gStr (cellAt cs 10)) fun s_11 => bnd (gStr (cellAt cs 11)) fun s_12 => bnd (gStr (cellAt cs 12)) fun s_13 => bnd (gBool (cellAt vs 2)) fun b_1 => br (bNot b_1) (br (iEq (nrows r1) (nrows r1)) (br (iEq (nrows r2) (nrows r2)) (br (iEq (nrows r3) (nrows r3)) (br (iEq (nrows r4) (nrows r4)) (br (iEq (nrows r5) (nrows r5)) (br (iEq (nrows r6) (nrows r6)) (br (iEq (nrows r7) (nrows r7)) (br (iEq (nrows r8) (nrows r8)) (br (iEq (nrows r9) (nrows r9)) (br (iEq (nrows r10) (nrows r10)) (some (MV.tup [], [Obj.cells [MV.own r1, MV.ownK r2, MV.own r3, MV.own r4, MV.own r5, MV.own r6, MV.own r7, MV.own r8, MV.own r9, MV.own r10]])) none) none) none) none) none) none) none) none) none) none) (br (iEq (nrows r1) (nrows r1)) (bnd (rowZ 7 r1 n12) fun x => br (iEq (nrows r1) (nrows r1)) (bnd (rowAt r1 n12) fun row => br (iLe 7 (rowLen row)) (br (iEq (nrows r4) (nrows r4)) (bnd (rowZ 1 r4 n12) fun x => br (iEq (nrows r4) (nrows r4)) (bnd (rowAt r4 n12) fun row_1 => bnd (gInt IntKind.i64 (cellAt row_1 0)) fun n_7 => br (iEq (nrows r4) (nrows r4)) (bnd (rowZ 1 r4 n12) fun x => br (iEq (nrows r4) (nrows r4)) (bnd (rowAt r4 n12) fun row_2 => br (iLe 1 (rowLen row_2)) (br (iLe 0 n13) (br (iEq (nrows r4) (nrows (setR r4 n12 (setRow row_2 0 [MV.int IntKind.i64 (iAdd IntKind.i64 n_7 1)])))) (bnd (rowZ 1 (setR r4 n12 (setRow row_2 0 [MV.int IntKind.i64 (iAdd IntKind.i64 n_7 1)])) n13) fun x => br (iEq (nrows r4) (nrows (setR r4 n12 (setRow row_2 0 [MV.int IntKind.i64 (iAdd IntKind.i64 n_7 1)])))) (bnd (rowAt (setR r4 n12 (setRow row_2 0 [MV.int IntKind.i64 (iAdd IntKind.i64 n_7 1)])) n13) fun row_3 => bnd (gInt IntKind.i64 (cellAt row_3 0)) fun n_8 => br (iEq (nrows r4) (nrows (setR r4 n12 (setRow row_2 0 [MV.int IntKind.i64 (iAdd IntKind.i64 n_7 1)])))) (bnd (rowZ 1 (setR r4 n12 (setRow row_2 0 [MV.int IntKind.i64 (iAdd IntKind.i64 n_7 1)])) n13) fun x => br (iEq (nrows r4) (nrows (setR r4 n12 (setRow row_2 0 [MV.int IntKind.i64 (iAdd IntKind.i64 n_7 1)])))) (bnd (rowAt (setR r4 n12 (setRow row_2 0 [MV.int IntKind.i64 (iAdd IntKind.i64 n_7 1)])) n13) fun row_4 => br (iLe 1 (rowLen row_4)) (br (iEq (nrows r3) (nrows r3)) (br (iEq (nrows [[MV.int IntKind.i64 n13, MV.int IntKind.i64 (nrows r3), MV.str (bs []), MV.str (bs [])]]) (nrows [[MV.int IntKind.i64 n13, MV.int IntKind.i64 (nrows r3), MV.str (bs []), MV.str (bs [])]])) (br (bAnd (iEq (nrows r2) (nrows r2)) (bAnd (okR 4 r2) (bAnd (okR 4 [[MV.int IntKind.i64 n13, MV.int IntKind.i64 (nrows r3), MV.str (bs []), MV.str (bs [])]]) (fits (nrows r2) (nrows [[MV.int IntKind.i64 n13, MV.int IntKind.i64 (nrows r3), MV.str (bs []), MV.str (bs [])]]) 48)))) (br (iEq (nrows [[MV.int IntKind.i64 n_4, MV.str s_6, MV.str s_7, MV.int IntKind.i64 n_5, MV.int IntKind.i64 n_6, MV.str s_8, MV.sl r_6, MV.sl r_7, MV.str s_9, MV.str s_10, MV.str s_11, MV.str s_12, MV.str s_13]]) (nrows [[MV.int IntKind.i64 n_4, MV.str s_6, MV.str s_7, MV.int IntKind.i64 n_5, MV.int IntKind.i64 n_6, MV.str s_8, MV.sl r_6, MV.sl r_7, MV.str s_9, MV.str s_10, MV.str s_11, MV.str s_12, MV.str s_13]])) (br (bAnd (iEq (nrows r3) (nrows r3)) (bAnd (okR 13 r3) (bAnd (okR 13 [[MV.int IntKind.i64 n_4, MV.str s_6, MV.str s_7, MV.int IntKind.i64 n_5, MV.int IntKind.i64 n_6, MV.str s_8, MV.sl r_6, MV.sl r_7, MV.str s_9, MV.str s_10, MV.str s_11, MV.str s_12, MV.str s_13]]) (fits (nrows r3) (nrows [[MV.int IntKind.i64 n_4, MV.str s_6, MV.str s_7, MV.int IntKind.i64 n_5, MV.int IntKind.i64 n_6, MV.str s_8, MV.sl r_6, MV.sl r_7, MV.str s_9, MV.str s_10, MV.str s_11, MV.str s_12, MV.str s_13]]) 200)))) (br (iEq (nrows r1) (nrows (setR r1 n12 (setRow row 0 [MV.bool b, MV.int IntKind.i64 n, MV.sl r, MV.sl r_5, MV.int IntKind.i64 n_3, MV.str s, MV.str s_5])))) (br (iEq (nrows (catR r2 [[MV.int IntKind.i64 n13, MV.int IntKind.i64 (nrows r3), MV.str (bs []), MV.str (bs [])]])) (nrows (catR r2 [[MV.int IntKind.i64 n13, MV.int IntKind.i64 (nrows r3), MV.str (bs []), MV.str (bs [])]]))) (br (iEq (nrows (catR r3 [[MV.int IntKind.i64 n_4, MV.str s_6, MV.str s_7, MV.int IntKind.i64 n_5, MV.int IntKind.i64 n_6, MV.str s_8, MV.sl r_6, MV.sl r_7, MV.str s_9, MV.str s_10, MV.str s_11, MV.str s_12, MV.str s_13]])) (nrows (catR r3 [[MV.int IntKind.i64 n_4, MV.str s_6, MV.str s_7, MV.int IntKind.i64 n_5, MV.int IntKind.i64 n_6, MV.str s_8, MV.sl r_6, MV.sl r_7, MV.str s_9, MV.str s_10, MV.str s_11, MV.str s_12, MV.str s_13]]))) (br (iEq (nrows r4) (nrows (setR (setR r4 n12 (setRow row_2 0 [MV.int IntKind.i64 (iAdd IntKind.i64 n_7 1)])) n13 (setRow row_4 0 [MV.int IntKind.i64 (iAdd IntKind.i64 n_8 2)])))) (br (iEq (nrows r5) (nrows r5)) (br (iEq (nrows r6) (nrows r6)) (br (iEq (nrows r7) (nrows r7)) (br (iEq (nrows r8) (nrows r8)) (br (iEq (nrows r9) (nrows r9)) (br (iEq (nrows r10) (nrows r10)) (some (MV.tup [], [Obj.cells [MV.own (setR r1 n12 (setRow row 0 [MV.bool b, MV.int IntKind.i64 n, MV.sl r, MV.sl r_5, MV.int IntKind.i64 n_3, MV.str s, MV.str s_5])), MV.ownK (catR r2 [[MV.int IntKind.i64 n13, MV.int IntKind.i64 (nrows r3), MV.str (bs []), MV.str (bs [])]]), MV.own (catR r3 [[MV.int IntKind.i64 n_4, MV.str s_6, MV.str s_7, MV.int IntKind.i64 n_5, MV.int IntKind.i64 n_6, MV.str s_8, MV.sl r_6, MV.sl r_7, MV.str s_9, MV.str s_10, MV.str s_11, MV.str s_12, MV.str s_13]]), MV.own (setR (setR r4 n12 (setRow row_2 0 [MV.int IntKind.i64 (iAdd IntKind.i64 n_7 1)])) n13 (setRow row_4 0 [MV.int IntKind.i64 (iAdd IntKind.i64 n_8 2)])), MV.own r5, MV.own r6, MV.own r7, MV.own r8, MV.own r9, MV.own r10]])) none) none) none) none) none) none) none) none) none) none) none) none) none) none) none) none) none) none) none) none) (br (iEq (nrows [[MV.int IntKind.i64 n_4, MV.str s_6, MV.str s_7, MV.int IntKind.i64 n_5, MV.int IntKind.i64 n_6, MV.str s_8, MV.sl r_6, MV.sl r_7, MV.str s_9, MV.str s_10, MV.str s_11, MV.str s_12, MV.str s_13]]) (nrows [[MV.int IntKind.i64 n_4, MV.str s_6, MV.str s_7, MV.int IntKind.i64 n_5, MV.int IntKind.i64 n_6, MV.str s_8, MV.sl r_6, MV.sl r_7, MV.str s_9, MV.str s_10, MV.str s_11, MV.str s_12, MV.str s_13]])) (br (bAnd (iEq (nrows r3) (nrows r3)) (bAnd (okR 13 r3) (bAnd (okR 13 [[MV.int IntKind.i64 n_4, MV.str s_6, MV.str s_7, MV.int IntKind.i64 n_5, MV.int IntKind.i64 n_6, MV.str s_8, MV.sl r_6, MV.sl r_7, MV.str s_9, MV.str s_10, MV.str s_11, MV.str s_12, MV.str s_13]]) (fits (nrows r3) (nrows [[MV.int IntKind.i64 n_4, MV.str s_6, MV.str s_7, MV.int IntKind.i64 n_5, MV.int IntKind.i64 n_6, MV.str s_8, MV.sl r_6, MV.sl r_7, MV.str s_9, MV.str s_10, MV.str s_11, MV.str s_12, MV.str s_13]]) 200)))) (br (iEq (nrows r1) (nrows (setR r1 n12 (setRow row 0 [MV.bool b, MV.int IntKind.i64 n, MV.sl r, MV.sl r_5, MV.int IntKind.i64 n_3, MV.str s, MV.str s_5])))) (br (iEq (nrows r2) (nrows r2)) (br (iEq (nrows (catR r3 [[MV.int IntKind.i64 n_4, MV.str s_6, MV.str s_7, MV.int IntKind.i64 n_5, MV.int IntKind.i64 n_6, MV.str s_8, MV.sl r_6, MV.sl r_7, MV.str s_9, MV.str s_10, MV.str s_11, MV.str s_12, MV.str s_13]])) (nrows (catR r3 [[MV.int IntKind.i64 n_4, MV.str s_6, MV.str s_7, MV.int IntKind.i64 n_5, MV.int IntKind.i64 n_6, MV.str s_8, MV.sl r_6, MV.sl r_7, MV.str s_9, MV.str s_10, MV.str s_11, MV.str s_12, MV.str s_13]]))) (br (iEq (nrows r4) (nrows (setR r4 n12 (setRow row_2 0 [MV.int IntKind.i64 (iAdd IntKind.i64 n_7 1)])))) (br (iEq (nrows r5) (nrows r5)) (br (iEq (nrows r6) (nrows r6)) (br (iEq (nrows r7) (nrows r7)) (br (iEq (nrows r8) (nrows r8)) (br (iEq (nrows r9) (nrows r9)) (br (iEq (nrows r10) (nrows r10)) (some (MV.tup [], [Obj.cells [MV.own (setR r1 n12 (setRow row 0 [MV.bool b, MV.int IntKind.i64 n, MV.sl r, MV.sl r_5, MV.int IntKind.i64 n_3, MV.str s, MV.str s_5])), MV.ownK r2, MV.own (catR r3 [[MV.int IntKind.i64 n_4, MV.str s_6, MV.str s_7, MV.int IntKind.i64 n_5, MV.int IntKind.i64 n_6, MV.str s_8, MV.sl r_6, MV.sl r_7, MV.str s_9, MV.str s_10, MV.str s_11, MV.str s_12, MV.str s_13]]), MV.own (setR r4 n12 (setRow row_2 0 [MV.int IntKind.i64 (iAdd IntKind.i64 n_7 1)])), MV.own r5, MV.own r6, MV.own r7, MV.own r8, MV.own r9, MV.own r10]])) none) none) none) none) none) none) none) none) none) none) none) none)) none) none) none) none) none) none) none) none)) none) none) none) none))) (br (iEq (nrows r1) (nrows r1)) (br (iEq (nrows r2) (nrows r2)) (br (iEq (nrows r3) (nrows r3)) (br (iEq (nrows r4) (nrows r4)) (br (iEq (nrows r5) (nrows r5)) (br (iEq (nrows r6) (nrows r6)) (br (iEq (nrows r7) (nrows r7)) (br (iEq (nrows r8) (nrows r8)) (br (iEq (nrows r9) (nrows r9)) (br (iEq (nrows r10) (nrows r10)) (some (MV.tup [], [Obj.cells [MV.own r1, MV.ownK r2, MV.own r3, MV.own r4, MV.own r5, MV.own r6, MV.own r7, MV.own r8, MV.own r9, MV.own r10]])) none) none) none) none) none) none) none) none) none) none)) (br (iEq (nrows r1) (nrows r1)) (br (iEq (nrows r2) (nrows r2)) (br (iEq (nrows r3) (nrows r3)) (br (iEq (nrows r4) (nrows r4)) (br (iEq (nrows r5) (nrows r5)) (br (iEq (nrows r6) (nrows r6)) (br (iEq (nrows r7) (nrows r7)) (br (iEq (nrows r8) (nrows r8)) (br (iEq (nrows r9) (nrows r9)) (br (iEq (nrows r10) (nrows r10)) (some (MV.tup [], [Obj.cells [MV.own r1, MV.ownK r2, MV.own r3, MV.own r4, MV.own r5, MV.own r6, MV.own r7, MV.own r8, MV.own r9, MV.own r10]])) none) none) none) none) none) none) none) none) none) none)) none) none) (br (iEq (nrows r1) (nrows r1)) (br (iEq (nrows r2) (nrows r2)) (br (iEq (nrows r3) (nrows r3)) (br (iEq (nrows r4) (nrows r4)) (br (iEq (nrows r5) (nrows r5)) (br (iEq (nrows r6) (nrows r6)) (br (iEq (nrows r7) (nrows r7)) (br (iEq (nrows r8) (nrows r8)) (br (iEq (nrows r9) (nrows r9)) (br (iEq (nrows r10) (nrows r10)) (some (MV.tup [], [Obj.cells [MV.own r1, MV.ownK r2, MV.own r3, MV.own r4, MV.own r5, MV.own r6, MV.own r7, MV.own r8, MV.own r9, MV.own r10]])) none) none) none) none) none) none) none) none) none) none)) none
theorem g_95 (D : Nat) (r1 : List Row) (r2 : List Row) (r3 : List Row) (r4 : List Row) (r5 : List Row) (r6 : List Row) (r7 : List Row) (r8 : List Row) (r9 : List Row) (r10 : List Row) (n11 : Int) (n12 : Int) (n13 : Int) (n14 : Int) (n15 : Int) (s16 : ByteArray) : G_95 (ev E LL D) r1 r2 r3 r4 r5 r6 r7 r8 r9 r10 n11 n12 n13 n14 n15 s16 = ev E LL (D + 1) 95 [.ptr (.imp 0) 0, .agg [.int .i64 n11, .int .i64 n12, .int .i64 n13, .int .i64 n14, .int .i64 n15, .str s16]] [.cells [.own r1, .ownK r2, .own r3, .own r4, .own r5, .own r6, .own r7, .own r8, .own r9, .own r10]] := by
  rw [eq_95]
  unfold G_95
  rfl
def G_104 (rec : Run) (s1 : ByteArray) (s2 : ByteArray) : Option Res := bnd (rec 164 [MV.str s1, MV.str s2] []) fun r => bnd (gBool r.1) fun b => some (MV.bool b, [])
theorem g_104 (D : Nat) (s1 : ByteArray) (s2 : ByteArray) : G_104 (ev E LL D) s1 s2 = ev E LL (D + 1) 104 [.str s1, .str s2] [] := by
  rw [eq_104]
  unfold G_104
  rfl
def B_108031_2 (rec : Run) (self : List Row → Int → Int → Option Res) (r0 : List Row) (i1 : Int) (i2 : Int) : Option Res := br (iLt i2 i1) (bnd (rowZ 13 r0 i2) fun row => bnd (gInt IntKind.i64 (cellAt row 0)) fun n_1 => bnd (gStr (cellAt row 1)) fun s => bnd (gStr (cellAt row 2)) fun s_1 => bnd (gInt IntKind.i64 (cellAt row 3)) fun n_2 => bnd (gInt IntKind.i64 (cellAt row 4)) fun n_3 => bnd (gStr (cellAt row 5)) fun s_2 => bnd (gSl (cellAt row 6)) fun r => bnd (gSl (cellAt row 7)) fun r_1 => bnd (gStr (cellAt row 8)) fun s_3 => bnd (gStr (cellAt row 9)) fun s_4 => bnd (gStr (cellAt row 10)) fun s_5 => bnd (gStr (cellAt row 11)) fun s_6 => bnd (gStr (cellAt row 12)) fun s_7 => bnd (rec 31 [MV.agg [MV.int IntKind.i64 n_1, MV.str s, MV.str s_1, MV.int IntKind.i64 n_2, MV.int IntKind.i64 n_3, MV.str s_2, MV.sl r, MV.sl r_1, MV.str s_3, MV.str s_4, MV.str s_5, MV.str s_6, MV.str s_7]] []) fun r => bnd (gBool r.1) fun b => br b (some (MV.int IntKind.i64 i2, [])) (self r0 i1 (iAdd IntKind.i64 i2 1))) (some (MV.int IntKind.i64 (-1), []))
def P_108031_2 (rec : Run) (n : Nat) : List Row → Int → Int → Option Res := Nat.rec (motive := fun _ => List Row → Int → Int → Option Res) (fun _ _ _ => none) (fun _ self => B_108031_2 rec self) n
theorem p_108031_2 (D : Nat) : ∀ (n : Nat) (r0 : List Row) (i1 : Int) (i2 : Int), P_108031_2 (ev E LL D) n r0 i1 i2 = LP_108031_2 LL D n  r0 i1 i2
  | 0, _, _, _ => by unfold LP_108031_2 lp loopN; rfl
  | n + 1, r0, i1, i2 => by
    have ih : P_108031_2 (ev E LL D) n = fun r0 i1 i2 => LP_108031_2 LL D n  r0 i1 i2 := by funext r0 i1 i2; exact p_108031_2 D n r0 i1 i2
    show B_108031_2 (ev E LL D) (P_108031_2 (ev E LL D) n) r0 i1 i2 = _
    rw [ih, LP_108031_2_succ]
    unfold B_108031_2
    rfl
def G_108031 (rec : Run) (r1 : List Row) : Option Res := P_108031_2 rec LL r1 (nrows r1) 0
theorem g_108031 (D : Nat) (r1 : List Row) : G_108031 (ev E LL D) r1 = ev E LL (D + 1) 108 [.sl r1, .fn 31 []] [] := by
  rw [eq_108031]
  unfold G_108031
  simp only [p_108031_2]
def G_110 (rec : Run) (r1 : List Row) : Option Res := bnd (rec 46 [MV.sl r1] []) fun r => bnd (gOwn r.1) fun r => br (iEq (nrows r) (nrows r)) (some (MV.agg [MV.own r], [])) none
theorem g_110 (D : Nat) (r1 : List Row) : G_110 (ev E LL D) r1 = ev E LL (D + 1) 110 [.agg [.sl r1]] [] := by
  rw [eq_110]
  unfold G_110
  rfl
def B_111_2 (rec : Run) (self : List Row → Int → Int → Option Res) (r0 : List Row) (i1 : Int) (i2 : Int) : Option Res := br (iEq i2 (nrows r0)) (br (iLt (nrows r0) i1) (br (iEq i2 (nrows r0)) (br (iEq i2 (nrows r0)) (bnd (rowZ 1 r0 (iSub IntKind.i64 (nrows r0) 1)) fun x => br (iEq i2 (nrows r0)) (bnd (rowAt r0 (iSub IntKind.i64 (nrows r0) 1)) fun row => bnd (gStr (cellAt row 0)) fun s => bnd (rec 159 [MV.str s] []) fun r => bnd (gStr r.1) fun s => br (iEq (nrows [[MV.str s]]) (nrows [[MV.str s]])) (br (bAnd (iEq i2 (nrows r0)) (bAnd (okR 1 r0) (bAnd (okR 1 [[MV.str s]]) (fits (nrows r0) (nrows [[MV.str s]]) 16)))) (self (catR r0 [[MV.str s]]) i1 (nrows (catR r0 [[MV.str s]]))) none) none) none) none) none) (br (iEq i2 (nrows r0)) (some (MV.sl r0, [])) none)) none
def P_111_2 (rec : Run) (n : Nat) : List Row → Int → Int → Option Res := Nat.rec (motive := fun _ => List Row → Int → Int → Option Res) (fun _ _ _ => none) (fun _ self => B_111_2 rec self) n
theorem p_111_2 (D : Nat) : ∀ (n : Nat) (r0 : List Row) (i1 : Int) (i2 : Int), P_111_2 (ev E LL D) n r0 i1 i2 = LP_111_2 LL D n  r0 i1 i2
  | 0, _, _, _ => by unfold LP_111_2 lp loopN; rfl
  | n + 1, r0, i1, i2 => by
    have ih : P_111_2 (ev E LL D) n = fun r0 i1 i2 => LP_111_2 LL D n  r0 i1 i2 := by funext r0 i1 i2; exact p_111_2 D n r0 i1 i2
    show B_111_2 (ev E LL D) (P_111_2 (ev E LL D) n) r0 i1 i2 = _
    rw [ih, LP_111_2_succ]
    unfold B_111_2
    rfl
def G_111 (rec : Run) (s1 : ByteArray) (n2 : Int) : Option Res := P_111_2 rec LL [[MV.str s1]] n2 (nrows [[MV.str s1]])
theorem g_111 (D : Nat) (s1 : ByteArray) (n2 : Int) : G_111 (ev E LL D) s1 n2 = ev E LL (D + 1) 111 [.str s1, .int .i64 n2] [] := by
  rw [eq_111]
  unfold G_111
  simp only [p_111_2]
def G_112 (rec : Run) (n1 : Int) : Option Res := some (MV.int IntKind.i64 (iAdd IntKind.i64 7 n1), [])
theorem g_112 (D : Nat) (n1 : Int) : G_112 (ev E LL D) n1 = ev E LL (D + 1) 112 [.int .i64 n1] [] := by
  rw [eq_112]
  unfold G_112
  rfl
def B_113_4 (rec : Run) (self : List Row → Int → Int → Option Res) (r0 : List Row) (i1 : Int) (i2 : Int) : Option Res := br (iLt 0 i1) (br (iEq 2 0) none (br (iEq (nrows [[MV.int IntKind.i64 (iQuo IntKind.i64 (iSub IntKind.i64 i1 1) 2)]]) (nrows [[MV.int IntKind.i64 (iQuo IntKind.i64 (iSub IntKind.i64 i1 1) 2)]])) (br (bAnd (iEq i2 (nrows r0)) (bAnd (okR 1 r0) (bAnd (okR 1 [[MV.int IntKind.i64 (iQuo IntKind.i64 (iSub IntKind.i64 i1 1) 2)]]) (fits (nrows r0) (nrows [[MV.int IntKind.i64 (iQuo IntKind.i64 (iSub IntKind.i64 i1 1) 2)]]) 8)))) (self (catR r0 [[MV.int IntKind.i64 (iQuo IntKind.i64 (iSub IntKind.i64 i1 1) 2)]]) (iQuo IntKind.i64 (iSub IntKind.i64 i1 1) 2) (nrows (catR r0 [[MV.int IntKind.i64 (iQuo IntKind.i64 (iSub IntKind.i64 i1 1) 2)]]))) none) none)) (br (iEq i2 (nrows r0)) (bnd (rec 136 [MV.sl r0] []) fun r => bnd (gSl r.1) fun r => some (MV.sl r, [])) none)
def P_113_4 (rec : Run) (n : Nat) : List Row → Int → Int → Option Res := Nat.rec (motive := fun _ => List Row → Int → Int → Option Res) (fun _ _ _ => none) (fun _ self => B_113_4 rec self) n
theorem p_113_4 (D : Nat) : ∀ (n : Nat) (r0 : List Row) (i1 : Int) (i2 : Int), P_113_4 (ev E LL D) n r0 i1 i2 = LP_113_4 LL D n  r0 i1 i2
  | 0, _, _, _ => by unfold LP_113_4 lp loopN; rfl
  | n + 1, r0, i1, i2 => by
    have ih : P_113_4 (ev E LL D) n = fun r0 i1 i2 => LP_113_4 LL D n  r0 i1 i2 := by funext r0 i1 i2; exact p_113_4 D n r0 i1 i2
    show B_113_4 (ev E LL D) (P_113_4 (ev E LL D) n) r0 i1 i2 = _
    rw [ih, LP_113_4_succ]
    unfold B_113_4
    rfl
def G_113 (rec : Run) (n1 : Int) : Option Res := bnd (rec 167 [MV.int IntKind.i64 n1] []) fun r => bnd (gBool r.1) fun b => br (bNot b) (some (MV.sl [], [])) (P_113_4 rec LL [] n1 (nrows []))
theorem g_113 (D : Nat) (n1 : Int) : G_113 (ev E LL D) n1 = ev E LL (D + 1) 113 [.int .i64 n1] [] := by
  rw [eq_113]
  unfold G_113
  simp only [p_113_4]
def G_115 (rec : Run) (s1 : ByteArray) : Option Res := br (bNot (kEq s1 (bs []))) (bnd (rec 116 [MV.str s1] []) fun r => bnd (gBool r.1) fun b => some (MV.bool (bNot b), [])) (some (MV.bool false, []))
theorem g_115 (D : Nat) (s1 : ByteArray) : G_115 (ev E LL D) s1 = ev E LL (D + 1) 115 [.str s1] [] := by
  rw [eq_115]
  unfold G_115
  simp only [kEq_eq]
def G_116 (rec : Run) (s1 : ByteArray) : Option Res := bnd (rec 72 [MV.str s1] []) fun r => bnd (gAggN 5 r.1) fun cs => bnd (gInt IntKind.i64 (cellAt cs 0)) fun n => bnd (gInt IntKind.i64 (cellAt cs 1)) fun n_1 => bnd (gInt IntKind.i64 (cellAt cs 2)) fun n_2 => bnd (gStr (cellAt cs 3)) fun s => bnd (gStr (cellAt cs 4)) fun s => some (MV.bool (iEq n 3), [])
theorem g_116 (D : Nat) (s1 : ByteArray) : G_116 (ev E LL D) s1 = ev E LL (D + 1) 116 [.str s1] [] := by
  rw [eq_116]
  unfold G_116
  rfl
def B_117118_2 (rec : Run) (self : Int → List Row → Int → Int → Option Res) (i0 : Int) (r1 : List Row) (i2 : Int) (i3 : Int) : Option Res := br (iLt i3 i2) (bnd (rowZ 2 r1 i3) fun row => bnd (gInt IntKind.i64 (cellAt row 0)) fun n_1 => bnd (gStr (cellAt row 1)) fun s => bnd (rec 118 [MV.agg [MV.int IntKind.i64 n_1, MV.str s], MV.ptr (H.imp 0) 0] [Obj.cells [MV.int IntKind.i64 i0]]) fun r => bnd (gCellsN 1 (hdO r.2)) fun ns => bnd (gInt IntKind.i64 (cellAt ns 0)) fun n_2 => bnd (gBool r.1) fun b => br b (some (MV.int IntKind.i64 i3, [Obj.cells [MV.int IntKind.i64 n_2]])) (self n_2 r1 i2 (iAdd IntKind.i64 i3 1))) (some (MV.int IntKind.i64 (-1), [Obj.cells [MV.int IntKind.i64 i0]]))
def P_117118_2 (rec : Run) (n : Nat) : Int → List Row → Int → Int → Option Res := Nat.rec (motive := fun _ => Int → List Row → Int → Int → Option Res) (fun _ _ _ _ => none) (fun _ self => B_117118_2 rec self) n
theorem p_117118_2 (D : Nat) : ∀ (n : Nat) (i0 : Int) (r1 : List Row) (i2 : Int) (i3 : Int), P_117118_2 (ev E LL D) n i0 r1 i2 i3 = LP_117118_2 LL D n  i0 r1 i2 i3
  | 0, _, _, _, _ => by unfold LP_117118_2 lp loopN; rfl
  | n + 1, i0, r1, i2, i3 => by
    have ih : P_117118_2 (ev E LL D) n = fun i0 r1 i2 i3 => LP_117118_2 LL D n  i0 r1 i2 i3 := by funext i0 r1 i2 i3; exact p_117118_2 D n i0 r1 i2 i3
    show B_117118_2 (ev E LL D) (P_117118_2 (ev E LL D) n) i0 r1 i2 i3 = _
    rw [ih, LP_117118_2_succ]
    unfold B_117118_2
    rfl
def G_117118 (rec : Run) (r1 : List Row) (n2 : Int) : Option Res := P_117118_2 rec LL n2 r1 (nrows r1) 0
theorem g_117118 (D : Nat) (r1 : List Row) (n2 : Int) : G_117118 (ev E LL D) r1 n2 = ev E LL (D + 1) 117 [.sl r1, .fn 118 [.ptr (.imp 0) 0]] [.cells [.int .i64 n2]] := by
  rw [eq_117118]
  unfold G_117118
  simp only [p_117118_2]
def G_118 (rec : Run) (n1 : Int) (s2 : ByteArray) (n3 : Int) : Option Res := some (MV.bool (iEq n1 n3), [Obj.cells [MV.int IntKind.i64 n3]])
theorem g_118 (D : Nat) (n1 : Int) (s2 : ByteArray) (n3 : Int) : G_118 (ev E LL D) n1 s2 n3 = ev E LL (D + 1) 118 [.agg [.int .i64 n1, .str s2], .ptr (.imp 0) 0] [.cells [.int .i64 n3]] := by
  rw [eq_118]
  unfold G_118
  rfl
def B_119_2 (rec : Run) (self : ByteArray → List Row → List Row → Int → Int → Option Res) (s0 : ByteArray) (r1 : List Row) (r2 : List Row) (i3 : Int) (i4 : Int) : Option Res := br (iLt i4 i3) (bnd (rowZ 1 r2 i4) fun row => bnd (gStr (cellAt row 0)) fun s => bnd (rec 35 [MV.str s] []) fun r => bnd (gBool r.1) fun b => br (bNot b) (some (MV.str (bs []), [])) (self s0 r1 r2 i3 (iAdd IntKind.i64 i4 1))) (bnd (rec 169 [MV.sl r1, MV.str (bs [])] []) fun r => bnd (gStr r.1) fun s => br (fits (sLen s0) (sLen s) 1) (br (iLe (sLen (kCat s0 s)) 300) (some (MV.str (kCat s0 s), [])) (some (MV.str (bs []), []))) none)
def P_119_2 (rec : Run) (n : Nat) : ByteArray → List Row → List Row → Int → Int → Option Res := Nat.rec (motive := fun _ => ByteArray → List Row → List Row → Int → Int → Option Res) (fun _ _ _ _ _ => none) (fun _ self => B_119_2 rec self) n
theorem p_119_2 (D : Nat) : ∀ (n : Nat) (s0 : ByteArray) (r1 : List Row) (r2 : List Row) (i3 : Int) (i4 : Int), P_119_2 (ev E LL D) n s0 r1 r2 i3 i4 = LP_119_2 LL D n  s0 r1 r2 i3 i4
  | 0, _, _, _, _, _ => by unfold LP_119_2 lp loopN; rfl
  | n + 1, s0, r1, r2, i3, i4 => by
    have ih : P_119_2 (ev E LL D) n = fun s0 r1 r2 i3 i4 => LP_119_2 LL D n  s0 r1 r2 i3 i4 := by funext s0 r1 r2 i3 i4; exact p_119_2 D n s0 r1 r2 i3 i4
    show B_119_2 (ev E LL D) (P_119_2 (ev E LL D) n) s0 r1 r2 i3 i4 = _
    rw [ih, LP_119_2_succ]
    unfold B_119_2
    simp only [kCat_eq]
def G_119 (rec : Run) (s1 : ByteArray) (r2 : List Row) : Option Res := P_119_2 rec LL s1 r2 r2 (nrows r2) 0
theorem g_119 (D : Nat) (s1 : ByteArray) (r2 : List Row) : G_119 (ev E LL D) s1 r2 = ev E LL (D + 1) 119 [.str s1, .sl r2] [] := by
  rw [eq_119]
  unfold G_119
  simp only [p_119_2]
def B_120024_2 (rec : Run) (self : List Row → Int → Int → Option Res) (r0 : List Row) (i1 : Int) (i2 : Int) : Option Res := br (iLt i2 i1) (bnd (rowZ 1 r0 i2) fun row => bnd (gInt IntKind.i64 (cellAt row 0)) fun n_1 => bnd (rec 24 [MV.int IntKind.i64 n_1] []) fun r => bnd (gBool r.1) fun b => br b (some (MV.int IntKind.i64 i2, [])) (self r0 i1 (iAdd IntKind.i64 i2 1))) (some (MV.int IntKind.i64 (-1), []))
def P_120024_2 (rec : Run) (n : Nat) : List Row → Int → Int → Option Res := Nat.rec (motive := fun _ => List Row → Int → Int → Option Res) (fun _ _ _ => none) (fun _ self => B_120024_2 rec self) n
theorem p_120024_2 (D : Nat) : ∀ (n : Nat) (r0 : List Row) (i1 : Int) (i2 : Int), P_120024_2 (ev E LL D) n r0 i1 i2 = LP_120024_2 LL D n  r0 i1 i2
  | 0, _, _, _ => by unfold LP_120024_2 lp loopN; rfl
  | n + 1, r0, i1, i2 => by
    have ih : P_120024_2 (ev E LL D) n = fun r0 i1 i2 => LP_120024_2 LL D n  r0 i1 i2 := by funext r0 i1 i2; exact p_120024_2 D n r0 i1 i2
    show B_120024_2 (ev E LL D) (P_120024_2 (ev E LL D) n) r0 i1 i2 = _
    rw [ih, LP_120024_2_succ]
    unfold B_120024_2
    rfl
def G_120024 (rec : Run) (r1 : List Row) : Option Res := P_120024_2 rec LL r1 (nrows r1) 0
theorem g_120024 (D : Nat) (r1 : List Row) : G_120024 (ev E LL D) r1 = ev E LL (D + 1) 120 [.sl r1, .fn 24 []] [] := by
  rw [eq_120024]
  unfold G_120024
  simp only [p_120024_2]
def B_120026_2 (rec : Run) (self : List Row → Int → Int → Option Res) (r0 : List Row) (i1 : Int) (i2 : Int) : Option Res := br (iLt i2 i1) (bnd (rowZ 1 r0 i2) fun row => bnd (gInt IntKind.i64 (cellAt row 0)) fun n_1 => bnd (rec 26 [MV.int IntKind.i64 n_1] []) fun r => bnd (gBool r.1) fun b => br b (some (MV.int IntKind.i64 i2, [])) (self r0 i1 (iAdd IntKind.i64 i2 1))) (some (MV.int IntKind.i64 (-1), []))
def P_120026_2 (rec : Run) (n : Nat) : List Row → Int → Int → Option Res := Nat.rec (motive := fun _ => List Row → Int → Int → Option Res) (fun _ _ _ => none) (fun _ self => B_120026_2 rec self) n
theorem p_120026_2 (D : Nat) : ∀ (n : Nat) (r0 : List Row) (i1 : Int) (i2 : Int), P_120026_2 (ev E LL D) n r0 i1 i2 = LP_120026_2 LL D n  r0 i1 i2
  | 0, _, _, _ => by unfold LP_120026_2 lp loopN; rfl
  | n + 1, r0, i1, i2 => by
    have ih : P_120026_2 (ev E LL D) n = fun r0 i1 i2 => LP_120026_2 LL D n  r0 i1 i2 := by funext r0 i1 i2; exact p_120026_2 D n r0 i1 i2
    show B_120026_2 (ev E LL D) (P_120026_2 (ev E LL D) n) r0 i1 i2 = _
    rw [ih, LP_120026_2_succ]
    unfold B_120026_2
    rfl
def G_120026 (rec : Run) (r1 : List Row) : Option Res := P_120026_2 rec LL r1 (nrows r1) 0
theorem g_120026 (D : Nat) (r1 : List Row) : G_120026 (ev E LL D) r1 = ev E LL (D + 1) 120 [.sl r1, .fn 26 []] [] := by
  rw [eq_120026]
  unfold G_120026
  simp only [p_120026_2]
def B_121028_2 (rec : Run) (self : List Row → Int → Int → Option Res) (r0 : List Row) (i1 : Int) (i2 : Int) : Option Res := br (iLt i2 i1) (bnd (rowZ 1 r0 i2) fun row => bnd (gSl (cellAt row 0)) fun r => bnd (rec 28 [MV.sl r] []) fun r => bnd (gBool r.1) fun b => br b (some (MV.int IntKind.i64 i2, [])) (self r0 i1 (iAdd IntKind.i64 i2 1))) (some (MV.int IntKind.i64 (-1), []))
def P_121028_2 (rec : Run) (n : Nat) : List Row → Int → Int → Option Res := Nat.rec (motive := fun _ => List Row → Int → Int → Option Res) (fun _ _ _ => none) (fun _ self => B_121028_2 rec self) n
theorem p_121028_2 (D : Nat) : ∀ (n : Nat) (r0 : List Row) (i1 : Int) (i2 : Int), P_121028_2 (ev E LL D) n r0 i1 i2 = LP_121028_2 LL D n  r0 i1 i2
  | 0, _, _, _ => by unfold LP_121028_2 lp loopN; rfl
  | n + 1, r0, i1, i2 => by
    have ih : P_121028_2 (ev E LL D) n = fun r0 i1 i2 => LP_121028_2 LL D n  r0 i1 i2 := by funext r0 i1 i2; exact p_121028_2 D n r0 i1 i2
    show B_121028_2 (ev E LL D) (P_121028_2 (ev E LL D) n) r0 i1 i2 = _
    rw [ih, LP_121028_2_succ]
    unfold B_121028_2
    rfl
def G_121028 (rec : Run) (r1 : List Row) : Option Res := P_121028_2 rec LL r1 (nrows r1) 0
theorem g_121028 (D : Nat) (r1 : List Row) : G_121028 (ev E LL D) r1 = ev E LL (D + 1) 121 [.sl r1, .fn 28 []] [] := by
  rw [eq_121028]
  unfold G_121028
  simp only [p_121028_2]
def G_124 (rec : Run) (s1 : ByteArray) : Option Res := br (kEq s1 (bs [])) (some (MV.tup [MV.agg [MV.int IntKind.i64 0, MV.int IntKind.i64 0, MV.int IntKind.i64 0, MV.str (bs []), MV.str (bs [])], MV.str s1, MV.bool false], [])) (bnd (rec 170 [MV.str s1] []) fun r => bnd (gInt IntKind.i64 r.1) fun n => br (iLe 0 n) (br (bAnd (iLe 0 1) (bAnd (iLe 1 (sLen s1)) (iLe (sLen s1) (sLen s1)))) (bnd (rec 171 [MV.str (kSub s1 1 (sLen s1))] []) fun r => bnd (gTupN 2 r.1) fun vs => bnd (gInt IntKind.i64 (cellAt vs 0)) fun n_1 => bnd (gStr (cellAt vs 1)) fun s => br (bNot (iEq n_1 0)) (bnd (rec 104 [MV.str s, MV.str (bs [59])] []) fun r => bnd (gBool r.1) fun b => br (bNot b) (some (MV.tup [MV.agg [MV.int IntKind.i64 0, MV.int IntKind.i64 0, MV.int IntKind.i64 0, MV.str (bs []), MV.str (bs [])], MV.str s1, MV.bool false], [])) (br (bAnd (iLe 0 1) (bAnd (iLe 1 (sLen s)) (iLe (sLen s) (sLen s)))) (some (MV.tup [MV.agg [MV.int IntKind.i64 1, MV.int IntKind.i64 n, MV.int IntKind.i64 n_1, MV.str (bs []), MV.str (bs [])], MV.str (kSub s 1 (sLen s)), MV.bool true], [])) none)) (some (MV.tup [MV.agg [MV.int IntKind.i64 0, MV.int IntKind.i64 0, MV.int IntKind.i64 0, MV.str (bs []), MV.str (bs [])], MV.str s1, MV.bool false], []))) none) (br (bAnd (iLe 0 1) (bAnd (iLe 1 (sLen s1)) (iLe (sLen s1) (sLen s1)))) (bnd (sAt s1 0) fun b => br (iEq b 110) (bnd (rec 124 [MV.str (kSub s1 1 (sLen s1))] []) fun r => bnd (gTupN 3 r.1) fun vs => bnd (gAggN 5 (cellAt vs 0)) fun cs => bnd (gInt IntKind.i64 (cellAt cs 0)) fun n => bnd (gInt IntKind.i64 (cellAt cs 1)) fun n => bnd (gInt IntKind.i64 (cellAt cs 2)) fun n => bnd (gStr (cellAt cs 3)) fun s => bnd (gStr (cellAt cs 4)) fun s => bnd (gStr (cellAt vs 1)) fun s => bnd (gBool (cellAt vs 2)) fun b => br (bAnd (iLe 0 0) (bAnd (iLe 0 (iSub IntKind.i64 (sLen (kSub s1 1 (sLen s1))) (sLen s))) (iLe (iSub IntKind.i64 (sLen (kSub s1 1 (sLen s1))) (sLen s)) (sLen (kSub s1 1 (sLen s1)))))) (br b (br (iEq 2 4) (bnd (rec 124 [MV.str s] []) fun r => bnd (gTupN 3 r.1) fun vs => bnd (gAggN 5 (cellAt vs 0)) fun cs => bnd (gInt IntKind.i64 (cellAt cs 0)) fun n => bnd (gInt IntKind.i64 (cellAt cs 1)) fun n => bnd (gInt IntKind.i64 (cellAt cs 2)) fun n => bnd (gStr (cellAt cs 3)) fun s_1 => bnd (gStr (cellAt cs 4)) fun s_2 => bnd (gStr (cellAt vs 1)) fun s_3 => bnd (gBool (cellAt vs 2)) fun b => br (bAnd (iLe 0 0) (bAnd (iLe 0 (iSub IntKind.i64 (sLen s) (sLen s_3))) (iLe (iSub IntKind.i64 (sLen s) (sLen s_3)) (sLen s)))) (br (bNot b) (some (MV.tup [MV.agg [MV.int IntKind.i64 0, MV.int IntKind.i64 0, MV.int IntKind.i64 0, MV.str (bs []), MV.str (bs [])], MV.str s1, MV.bool false], [])) (some (MV.tup [MV.agg [MV.int IntKind.i64 2, MV.int IntKind.i64 0, MV.int IntKind.i64 0, MV.str (kSub (kSub s1 1 (sLen s1)) 0 (iSub IntKind.i64 (sLen (kSub s1 1 (sLen s1))) (sLen s))), MV.str (kSub s 0 (iSub IntKind.i64 (sLen s) (sLen s_3)))], MV.str s_3, MV.bool true], []))) none) (br (bNot b) (some (MV.tup [MV.agg [MV.int IntKind.i64 0, MV.int IntKind.i64 0, MV.int IntKind.i64 0, MV.str (bs []), MV.str (bs [])], MV.str s1, MV.bool false], [])) (some (MV.tup [MV.agg [MV.int IntKind.i64 2, MV.int IntKind.i64 0, MV.int IntKind.i64 0, MV.str (kSub (kSub s1 1 (sLen s1)) 0 (iSub IntKind.i64 (sLen (kSub s1 1 (sLen s1))) (sLen s))), MV.str (bs [])], MV.str s, MV.bool true], [])))) (br (bNot b) (some (MV.tup [MV.agg [MV.int IntKind.i64 0, MV.int IntKind.i64 0, MV.int IntKind.i64 0, MV.str (bs []), MV.str (bs [])], MV.str s1, MV.bool false], [])) (some (MV.tup [MV.agg [MV.int IntKind.i64 2, MV.int IntKind.i64 0, MV.int IntKind.i64 0, MV.str (kSub (kSub s1 1 (sLen s1)) 0 (iSub IntKind.i64 (sLen (kSub s1 1 (sLen s1))) (sLen s))), MV.str (bs [])], MV.str s, MV.bool true], [])))) none) (br (iEq b 107) (bnd (rec 124 [MV.str (kSub s1 1 (sLen s1))] []) fun r => bnd (gTupN 3 r.1) fun vs => bnd (gAggN 5 (cellAt vs 0)) fun cs => bnd (gInt IntKind.i64 (cellAt cs 0)) fun n => bnd (gInt IntKind.i64 (cellAt cs 1)) fun n => bnd (gInt IntKind.i64 (cellAt cs 2)) fun n => bnd (gStr (cellAt cs 3)) fun s => bnd (gStr (cellAt cs 4)) fun s => bnd (gStr (cellAt vs 1)) fun s => bnd (gBool (cellAt vs 2)) fun b => br (bAnd (iLe 0 0) (bAnd (iLe 0 (iSub IntKind.i64 (sLen (kSub s1 1 (sLen s1))) (sLen s))) (iLe (iSub IntKind.i64 (sLen (kSub s1 1 (sLen s1))) (sLen s)) (sLen (kSub s1 1 (sLen s1)))))) (br b (br (iEq 3 4) (bnd (rec 124 [MV.str s] []) fun r => bnd (gTupN 3 r.1) fun vs => bnd (gAggN 5 (cellAt vs 0)) fun cs => bnd (gInt IntKind.i64 (cellAt cs 0)) fun n => bnd (gInt IntKind.i64 (cellAt cs 1)) fun n => bnd (gInt IntKind.i64 (cellAt cs 2)) fun n => bnd (gStr (cellAt cs 3)) fun s_1 => bnd (gStr (cellAt cs 4)) fun s_2 => bnd (gStr (cellAt vs 1)) fun s_3 => bnd (gBool (cellAt vs 2)) fun b => br (bAnd (iLe 0 0) (bAnd (iLe 0 (iSub IntKind.i64 (sLen s) (sLen s_3))) (iLe (iSub IntKind.i64 (sLen s) (sLen s_3)) (sLen s)))) (br (bNot b) (some (MV.tup [MV.agg [MV.int IntKind.i64 0, MV.int IntKind.i64 0, MV.int IntKind.i64 0, MV.str (bs []), MV.str (bs [])], MV.str s1, MV.bool false], [])) (some (MV.tup [MV.agg [MV.int IntKind.i64 3, MV.int IntKind.i64 0, MV.int IntKind.i64 0, MV.str (kSub (kSub s1 1 (sLen s1)) 0 (iSub IntKind.i64 (sLen (kSub s1 1 (sLen s1))) (sLen s))), MV.str (kSub s 0 (iSub IntKind.i64 (sLen s) (sLen s_3)))], MV.str s_3, MV.bool true], []))) none) (br (bNot b) (some (MV.tup [MV.agg [MV.int IntKind.i64 0, MV.int IntKind.i64 0, MV.int IntKind.i64 0, MV.str (bs []), MV.str (bs [])], MV.str s1, MV.bool false], [])) (some (MV.tup [MV.agg [MV.int IntKind.i64 3, MV.int IntKind.i64 0, MV.int IntKind.i64 0, MV.str (kSub (kSub s1 1 (sLen s1)) 0 (iSub IntKind.i64 (sLen (kSub s1 1 (sLen s1))) (sLen s))), MV.str (bs [])], MV.str s, MV.bool true], [])))) (br (bNot b) (some (MV.tup [MV.agg [MV.int IntKind.i64 0, MV.int IntKind.i64 0, MV.int IntKind.i64 0, MV.str (bs []), MV.str (bs [])], MV.str s1, MV.bool false], [])) (some (MV.tup [MV.agg [MV.int IntKind.i64 3, MV.int IntKind.i64 0, MV.int IntKind.i64 0, MV.str (kSub (kSub s1 1 (sLen s1)) 0 (iSub IntKind.i64 (sLen (kSub s1 1 (sLen s1))) (sLen s))), MV.str (bs [])], MV.str s, MV.bool true], [])))) none) (br (iEq b 101) (bnd (rec 124 [MV.str (kSub s1 1 (sLen s1))] []) fun r => bnd (gTupN 3 r.1) fun vs => bnd (gAggN 5 (cellAt vs 0)) fun cs => bnd (gInt IntKind.i64 (cellAt cs 0)) fun n => bnd (gInt IntKind.i64 (cellAt cs 1)) fun n => bnd (gInt IntKind.i64 (cellAt cs 2)) fun n => bnd (gStr (cellAt cs 3)) fun s => bnd (gStr (cellAt cs 4)) fun s => bnd (gStr (cellAt vs 1)) fun s => bnd (gBool (cellAt vs 2)) fun b => br (bAnd (iLe 0 0) (bAnd (iLe 0 (iSub IntKind.i64 (sLen (kSub s1 1 (sLen s1))) (sLen s))) (iLe (iSub IntKind.i64 (sLen (kSub s1 1 (sLen s1))) (sLen s)) (sLen (kSub s1 1 (sLen s1)))))) (br b (br (iEq 4 4) (bnd (rec 124 [MV.str s] []) fun r => bnd (gTupN 3 r.1) fun vs => bnd (gAggN 5 (cellAt vs 0)) fun cs => bnd (gInt IntKind.i64 (cellAt cs 0)) fun n => bnd (gInt IntKind.i64 (cellAt cs 1)) fun n => bnd (gInt IntKind.i64 (cellAt cs 2)) fun n => bnd (gStr (cellAt cs 3)) fun s_1 => bnd (gStr (cellAt cs 4)) fun s_2 => bnd (gStr (cellAt vs 1)) fun s_3 => bnd (gBool (cellAt vs 2)) fun b => br (bAnd (iLe 0 0) (bAnd (iLe 0 (iSub IntKind.i64 (sLen s) (sLen s_3))) (iLe (iSub IntKind.i64 (sLen s) (sLen s_3)) (sLen s)))) (br (bNot b) (some (MV.tup [MV.agg [MV.int IntKind.i64 0, MV.int IntKind.i64 0, MV.int IntKind.i64 0, MV.str (bs []), MV.str (bs [])], MV.str s1, MV.bool false], [])) (some (MV.tup [MV.agg [MV.int IntKind.i64 4, MV.int IntKind.i64 0, MV.int IntKind.i64 0, MV.str (kSub (kSub s1 1 (sLen s1)) 0 (iSub IntKind.i64 (sLen (kSub s1 1 (sLen s1))) (sLen s))), MV.str (kSub s 0 (iSub IntKind.i64 (sLen s) (sLen s_3)))], MV.str s_3, MV.bool true], []))) none) (br (bNot b) (some (MV.tup [MV.agg [MV.int IntKind.i64 0, MV.int IntKind.i64 0, MV.int IntKind.i64 0, MV.str (bs []), MV.str (bs [])], MV.str s1, MV.bool false], [])) (some (MV.tup [MV.agg [MV.int IntKind.i64 4, MV.int IntKind.i64 0, MV.int IntKind.i64 0, MV.str (kSub (kSub s1 1 (sLen s1)) 0 (iSub IntKind.i64 (sLen (kSub s1 1 (sLen s1))) (sLen s))), MV.str (bs [])], MV.str s, MV.bool true], [])))) (br (bNot b) (some (MV.tup [MV.agg [MV.int IntKind.i64 0, MV.int IntKind.i64 0, MV.int IntKind.i64 0, MV.str (bs []), MV.str (bs [])], MV.str s1, MV.bool false], [])) (some (MV.tup [MV.agg [MV.int IntKind.i64 4, MV.int IntKind.i64 0, MV.int IntKind.i64 0, MV.str (kSub (kSub s1 1 (sLen s1)) 0 (iSub IntKind.i64 (sLen (kSub s1 1 (sLen s1))) (sLen s))), MV.str (bs [])], MV.str s, MV.bool true], [])))) none) (br (iEq b 109) (bnd (rec 170 [MV.str (kSub s1 1 (sLen s1))] []) fun r => bnd (gInt IntKind.i64 r.1) fun n => br (iLt n 0) (some (MV.tup [MV.agg [MV.int IntKind.i64 0, MV.int IntKind.i64 0, MV.int IntKind.i64 0, MV.str (bs []), MV.str (bs [])], MV.str s1, MV.bool false], [])) (br (bAnd (iLe 0 1) (bAnd (iLe 1 (sLen (kSub s1 1 (sLen s1)))) (iLe (sLen (kSub s1 1 (sLen s1))) (sLen (kSub s1 1 (sLen s1)))))) (bnd (rec 124 [MV.str (kSub (kSub s1 1 (sLen s1)) 1 (sLen (kSub s1 1 (sLen s1))))] []) fun r => bnd (gTupN 3 r.1) fun vs => bnd (gAggN 5 (cellAt vs 0)) fun cs => bnd (gInt IntKind.i64 (cellAt cs 0)) fun n_1 => bnd (gInt IntKind.i64 (cellAt cs 1)) fun n_2 => bnd (gInt IntKind.i64 (cellAt cs 2)) fun n_3 => bnd (gStr (cellAt cs 3)) fun s => bnd (gStr (cellAt cs 4)) fun s => bnd (gStr (cellAt vs 1)) fun s => bnd (gBool (cellAt vs 2)) fun b => br (bAnd (iLe 0 0) (bAnd (iLe 0 (iSub IntKind.i64 (sLen (kSub (kSub s1 1 (sLen s1)) 1 (sLen (kSub s1 1 (sLen s1))))) (sLen s))) (iLe (iSub IntKind.i64 (sLen (kSub (kSub s1 1 (sLen s1)) 1 (sLen (kSub s1 1 (sLen s1))))) (sLen s)) (sLen (kSub (kSub s1 1 (sLen s1)) 1 (sLen (kSub s1 1 (sLen s1)))))))) (br b (br (iEq 5 4) (bnd (rec 124 [MV.str s] []) fun r => bnd (gTupN 3 r.1) fun vs => bnd (gAggN 5 (cellAt vs 0)) fun cs => bnd (gInt IntKind.i64 (cellAt cs 0)) fun n_4 => bnd (gInt IntKind.i64 (cellAt cs 1)) fun n_5 => bnd (gInt IntKind.i64 (cellAt cs 2)) fun n_6 => bnd (gStr (cellAt cs 3)) fun s_1 => bnd (gStr (cellAt cs 4)) fun s_2 => bnd (gStr (cellAt vs 1)) fun s_3 => bnd (gBool (cellAt vs 2)) fun b => br (bAnd (iLe 0 0) (bAnd (iLe 0 (iSub IntKind.i64 (sLen s) (sLen s_3))) (iLe (iSub IntKind.i64 (sLen s) (sLen s_3)) (sLen s)))) (br (bNot b) (some (MV.tup [MV.agg [MV.int IntKind.i64 0, MV.int IntKind.i64 0, MV.int IntKind.i64 0, MV.str (bs []), MV.str (bs [])], MV.str s1, MV.bool false], [])) (some (MV.tup [MV.agg [MV.int IntKind.i64 5, MV.int IntKind.i64 n, MV.int IntKind.i64 0, MV.str (kSub (kSub (kSub s1 1 (sLen s1)) 1 (sLen (kSub s1 1 (sLen s1)))) 0 (iSub IntKind.i64 (sLen (kSub (kSub s1 1 (sLen s1)) 1 (sLen (kSub s1 1 (sLen s1))))) (sLen s))), MV.str (kSub s 0 (iSub IntKind.i64 (sLen s) (sLen s_3)))], MV.str s_3, MV.bool true], []))) none) (br (bNot b) (some (MV.tup [MV.agg [MV.int IntKind.i64 0, MV.int IntKind.i64 0, MV.int IntKind.i64 0, MV.str (bs []), MV.str (bs [])], MV.str s1, MV.bool false], [])) (some (MV.tup [MV.agg [MV.int IntKind.i64 5, MV.int IntKind.i64 n, MV.int IntKind.i64 0, MV.str (kSub (kSub (kSub s1 1 (sLen s1)) 1 (sLen (kSub s1 1 (sLen s1)))) 0 (iSub IntKind.i64 (sLen (kSub (kSub s1 1 (sLen s1)) 1 (sLen (kSub s1 1 (sLen s1))))) (sLen s))), MV.str (bs [])], MV.str s, MV.bool true], [])))) (br (bNot b) (some (MV.tup [MV.agg [MV.int IntKind.i64 0, MV.int IntKind.i64 0, MV.int IntKind.i64 0, MV.str (bs []), MV.str (bs [])], MV.str s1, MV.bool false], [])) (some (MV.tup [MV.agg [MV.int IntKind.i64 5, MV.int IntKind.i64 n, MV.int IntKind.i64 0, MV.str (kSub (kSub (kSub s1 1 (sLen s1)) 1 (sLen (kSub s1 1 (sLen s1)))) 0 (iSub IntKind.i64 (sLen (kSub (kSub s1 1 (sLen s1)) 1 (sLen (kSub s1 1 (sLen s1))))) (sLen s))), MV.str (bs [])], MV.str s, MV.bool true], [])))) none) none)) (br (iEq b 114) (br (bNot (kEq (kSub s1 1 (sLen s1)) (bs []))) (bnd (sAt (kSub s1 1 (sLen s1)) 0) fun b => br (bNot (iLt b 49)) (bnd (sAt (kSub s1 1 (sLen s1)) 0) fun b => br (iLt 57 b) (some (MV.tup [MV.agg [MV.int IntKind.i64 0, MV.int IntKind.i64 0, MV.int IntKind.i64 0, MV.str (bs []), MV.str (bs [])], MV.str s1, MV.bool false], [])) (bnd (sAt (kSub s1 1 (sLen s1)) 0) fun b => br (bAnd (iLe 0 1) (bAnd (iLe 1 (sLen (kSub s1 1 (sLen s1)))) (iLe (sLen (kSub s1 1 (sLen s1))) (sLen (kSub s1 1 (sLen s1)))))) (bnd (rec 124 [MV.str (kSub (kSub s1 1 (sLen s1)) 1 (sLen (kSub s1 1 (sLen s1))))] []) fun r => bnd (gTupN 3 r.1) fun vs => bnd (gAggN 5 (cellAt vs 0)) fun cs => bnd (gInt IntKind.i64 (cellAt cs 0)) fun n => bnd (gInt IntKind.i64 (cellAt cs 1)) fun n => bnd (gInt IntKind.i64 (cellAt cs 2)) fun n => bnd (gStr (cellAt cs 3)) fun s => bnd (gStr (cellAt cs 4)) fun s => bnd (gStr (cellAt vs 1)) fun s => bnd (gBool (cellAt vs 2)) fun b_1 => br (bAnd (iLe 0 0) (bAnd (iLe 0 (iSub IntKind.i64 (sLen (kSub (kSub s1 1 (sLen s1)) 1 (sLen (kSub s1 1 (sLen s1))))) (sLen s))) (iLe (iSub IntKind.i64 (sLen (kSub (kSub s1 1 (sLen s1)) 1 (sLen (kSub s1 1 (sLen s1))))) (sLen s)) (sLen (kSub (kSub s1 1 (sLen s1)) 1 (sLen (kSub s1 1 (sLen s1)))))))) (br b_1 (br (iEq 6 4) (bnd (rec 124 [MV.str s] []) fun r => bnd (gTupN 3 r.1) fun vs => bnd (gAggN 5 (cellAt vs 0)) fun cs => bnd (gInt IntKind.i64 (cellAt cs 0)) fun n => bnd (gInt IntKind.i64 (cellAt cs 1)) fun n => bnd (gInt IntKind.i64 (cellAt cs 2)) fun n => bnd (gStr (cellAt cs 3)) fun s_1 => bnd (gStr (cellAt cs 4)) fun s_2 => bnd (gStr (cellAt vs 1)) fun s_3 => bnd (gBool (cellAt vs 2)) fun b_2 => br (bAnd (iLe 0 0) (bAnd (iLe 0 (iSub IntKind.i64 (sLen s) (sLen s_3))) (iLe (iSub IntKind.i64 (sLen s) (sLen s_3)) (sLen s)))) (br (bNot b_2) (some (MV.tup [MV.agg [MV.int IntKind.i64 0, MV.int IntKind.i64 0, MV.int IntKind.i64 0, MV.str (bs []), MV.str (bs [])], MV.str s1, MV.bool false], [])) (some (MV.tup [MV.agg [MV.int IntKind.i64 6, MV.int IntKind.i64 0, MV.int IntKind.i64 (iWrap IntKind.i64 (iSub IntKind.u8 b 48)), MV.str (kSub (kSub (kSub s1 1 (sLen s1)) 1 (sLen (kSub s1 1 (sLen s1)))) 0 (iSub IntKind.i64 (sLen (kSub (kSub s1 1 (sLen s1)) 1 (sLen (kSub s1 1 (sLen s1))))) (sLen s))), MV.str (kSub s 0 (iSub IntKind.i64 (sLen s) (sLen s_3)))], MV.str s_3, MV.bool true], []))) none) (br (bNot b_1) (some (MV.tup [MV.agg [MV.int IntKind.i64 0, MV.int IntKind.i64 0, MV.int IntKind.i64 0, MV.str (bs []), MV.str (bs [])], MV.str s1, MV.bool false], [])) (some (MV.tup [MV.agg [MV.int IntKind.i64 6, MV.int IntKind.i64 0, MV.int IntKind.i64 (iWrap IntKind.i64 (iSub IntKind.u8 b 48)), MV.str (kSub (kSub (kSub s1 1 (sLen s1)) 1 (sLen (kSub s1 1 (sLen s1)))) 0 (iSub IntKind.i64 (sLen (kSub (kSub s1 1 (sLen s1)) 1 (sLen (kSub s1 1 (sLen s1))))) (sLen s))), MV.str (bs [])], MV.str s, MV.bool true], [])))) (br (bNot b_1) (some (MV.tup [MV.agg [MV.int IntKind.i64 0, MV.int IntKind.i64 0, MV.int IntKind.i64 0, MV.str (bs []), MV.str (bs [])], MV.str s1, MV.bool false], [])) (some (MV.tup [MV.agg [MV.int IntKind.i64 6, MV.int IntKind.i64 0, MV.int IntKind.i64 (iWrap IntKind.i64 (iSub IntKind.u8 b 48)), MV.str (kSub (kSub (kSub s1 1 (sLen s1)) 1 (sLen (kSub s1 1 (sLen s1)))) 0 (iSub IntKind.i64 (sLen (kSub (kSub s1 1 (sLen s1)) 1 (sLen (kSub s1 1 (sLen s1))))) (sLen s))), MV.str (bs [])], MV.str s, MV.bool true], [])))) none) none)) (some (MV.tup [MV.agg [MV.int IntKind.i64 0, MV.int IntKind.i64 0, MV.int IntKind.i64 0, MV.str (bs []), MV.str (bs [])], MV.str s1, MV.bool false], []))) (some (MV.tup [MV.agg [MV.int IntKind.i64 0, MV.int IntKind.i64 0, MV.int IntKind.i64 0, MV.str (bs []), MV.str (bs [])], MV.str s1, MV.bool false], []))) (some (MV.tup [MV.agg [MV.int IntKind.i64 0, MV.int IntKind.i64 0, MV.int IntKind.i64 0, MV.str (bs []), MV.str (bs [])], MV.str s1, MV.bool false], []))))))) none))
theorem g_124 (D : Nat) (s1 : ByteArray) : G_124 (ev E LL D) s1 = ev E LL (D + 1) 124 [.str s1] [] := by
  rw [eq_124]
  unfold G_124
  simp only [kSub_eq, kEq_eq]
def B_126115_2 (rec : Run) (self : List Row → Int → Int → Option Res) (r0 : List Row) (i1 : Int) (i2 : Int) : Option Res := br (iLt i2 i1) (bnd (rowZ 1 r0 i2) fun row => bnd (gStr (cellAt row 0)) fun s => bnd (rec 115 [MV.str s] []) fun r => bnd (gBool r.1) fun b => br b (some (MV.int IntKind.i64 i2, [])) (self r0 i1 (iAdd IntKind.i64 i2 1))) (some (MV.int IntKind.i64 (-1), []))
def P_126115_2 (rec : Run) (n : Nat) : List Row → Int → Int → Option Res := Nat.rec (motive := fun _ => List Row → Int → Int → Option Res) (fun _ _ _ => none) (fun _ self => B_126115_2 rec self) n
theorem p_126115_2 (D : Nat) : ∀ (n : Nat) (r0 : List Row) (i1 : Int) (i2 : Int), P_126115_2 (ev E LL D) n r0 i1 i2 = LP_126115_2 LL D n  r0 i1 i2
  | 0, _, _, _ => by unfold LP_126115_2 lp loopN; rfl
  | n + 1, r0, i1, i2 => by
    have ih : P_126115_2 (ev E LL D) n = fun r0 i1 i2 => LP_126115_2 LL D n  r0 i1 i2 := by funext r0 i1 i2; exact p_126115_2 D n r0 i1 i2
    show B_126115_2 (ev E LL D) (P_126115_2 (ev E LL D) n) r0 i1 i2 = _
    rw [ih, LP_126115_2_succ]
    unfold B_126115_2
    rfl
def G_126115 (rec : Run) (r1 : List Row) : Option Res := P_126115_2 rec LL r1 (nrows r1) 0
theorem g_126115 (D : Nat) (r1 : List Row) : G_126115 (ev E LL D) r1 = ev E LL (D + 1) 126 [.sl r1, .fn 115 []] [] := by
  rw [eq_126115]
  unfold G_126115
  simp only [p_126115_2]
def B_148_13 (rec : Run) (k10 : List Row → List Row → List Row → List Row → List Row → List Row → List Row → List Row → Bool → Int → List Row → List Row → Int → ByteArray → ByteArray → Bool → Int → Int → Int → Int → ByteArray → ByteArray → Int → ByteArray → ByteArray → Int → Int → ByteArray → Int → Int → ByteArray → ByteArray → ByteArray → ByteArray → ByteArray → Int → Bool → Int → Int → List Row → Int → ByteArray → ByteArray → Int → ByteArray → ByteArray → Int → Int → ByteArray → Int → Int → ByteArray → ByteArray → ByteArray → ByteArray → ByteArray → Int → ByteArray → List Row → List Row → Int → Int → Option Res) (self : List Row → List Row → List Row → List Row → List Row → List Row → List Row → List Row → List Row → Bool → Int → List Row → List Row → Int → ByteArray → ByteArray → Bool → Int → Int → Int → Int → ByteArray → ByteArray → Int → ByteArray → ByteArray → Int → Int → ByteArray → Int → Int → ByteArray → ByteArray → ByteArray → ByteArray → ByteArray → Int → Bool → Int → Int → List Row → Int → ByteArray → ByteArray → Int → ByteArray → ByteArray → Int → Int → ByteArray → Int → Int → ByteArray → ByteArray → ByteArray → ByteArray → ByteArray → Int → ByteArray → List Row → Int → List Row → Int → Int → Int → Int → Int → Option Res) (r0 : List Row) (r1 : List Row) (r2 : List Row) (r3 : List Row) (r4 : List Row) (r5 : List Row) (r6 : List Row) (r7 : List Row) (r8 : List Row) (b9 : Bool) (i10 : Int) (r11 : List Row) (r12 : List Row) (i13 : Int) (s14 : ByteArray) (s15 : ByteArray) (b16 : Bool) (i17 : Int) (i18 : Int) (i19 : Int) (i20 : Int) (s21 : ByteArray) (s22 : ByteArray) (i23 : Int) (s24 : ByteArray) (s25 : ByteArray) (i26 : Int) (i27 : Int) (s28 : ByteArray) (i29 : Int) (i30 : Int) (s31 : ByteArray) (s32 : ByteArray) (s33 : ByteArray) (s34 : ByteArray) (s35 : ByteArray) (i36 : Int) (b37 : Bool) (i38 : Int) (i39 : Int) (r40 : List Row) (i41 : Int) (s42 : ByteArray) (s43 : ByteArray) (i44 : Int) (s45 : ByteArray) (s46 : ByteArray) (i47 : Int) (i48 : Int) (s49 : ByteArray) (i50 : Int) (i51 : Int) (s52 : ByteArray) (s53 : ByteArray) (s54 : ByteArray) (s55 : ByteArray) (s56 : ByteArray) (i57 : Int) (s58 : ByteArray) (r59 : List Row) (i60 : Int) (r61 : List Row) (i62 : Int) (i63 : Int) (i64 : Int) (i65 : Int) (i66 : Int) : Option Res := br (iLt i66 i65) (br (iEq i64 (nrows r8)) (bnd (rowZ 1 r8 i66) fun x => br (iEq i64 (nrows r8)) (bnd (rowAt r8 i66) fun row => bnd (gInt IntKind.i64 (cellAt row 0)) fun n_1 => br (bNot (iLt i57 0)) (bnd (rec 112 [MV.int IntKind.i64 i57] []) fun r => bnd (gInt IntKind.i64 r.1) fun n_2 => br (bNot (iEq n_1 n_2)) (br (iEq i36 (nrows r4)) (bnd (rowZ 1 r4 n_1) fun x => br (iEq i36 (nrows r4)) (bnd (rowAt r4 n_1) fun row => bnd (gStr (cellAt row 0)) fun s => bnd (rowZ 2 r40 (iAdd IntKind.i64 i60 1)) fun row => bnd (gStr (cellAt row 1)) fun s_1 => br (iEq (nrows [[MV.str s, MV.str s_1]]) (nrows [[MV.str s, MV.str s_1]])) (br (bAnd (iEq i51 (nrows r7)) (bAnd (okR 2 r7) (bAnd (okR 2 [[MV.str s, MV.str s_1]]) (fits (nrows r7) (nrows [[MV.str s, MV.str s_1]]) 32)))) (self r0 r1 r2 r3 r4 r5 r6 (catR r7 [[MV.str s, MV.str s_1]]) r8 b9 i10 r11 r12 i13 s14 s15 b16 i17 i18 i19 i20 s21 s22 i23 s24 s25 i26 i27 s28 i29 i30 s31 s32 s33 s34 s35 i36 b37 i38 i39 r40 i41 s42 s43 i44 s45 s46 i47 i48 s49 i50 (nrows (catR r7 [[MV.str s, MV.str s_1]])) s52 s53 s54 s55 s56 i57 s58 r59 i60 r61 i62 i63 i64 i65 (iAdd IntKind.i64 i66 1)) none) none) none) none) (self r0 r1 r2 r3 r4 r5 r6 r7 r8 b9 i10 r11 r12 i13 s14 s15 b16 i17 i18 i19 i20 s21 s22 i23 s24 s25 i26 i27 s28 i29 i30 s31 s32 s33 s34 s35 i36 b37 i38 i39 r40 i41 s42 s43 i44 s45 s46 i47 i48 s49 i50 i51 s52 s53 s54 s55 s56 i57 s58 r59 i60 r61 i62 i63 i64 i65 (iAdd IntKind.i64 i66 1))) (br (iEq i36 (nrows r4)) (bnd (rowZ 1 r4 n_1) fun x => br (iEq i36 (nrows r4)) (bnd (rowAt r4 n_1) fun row => bnd (gStr (cellAt row 0)) fun s => bnd (rowZ 2 r40 (iAdd IntKind.i64 i60 1)) fun row => bnd (gStr (cellAt row 1)) fun s_1 => br (iEq (nrows [[MV.str s, MV.str s_1]]) (nrows [[MV.str s, MV.str s_1]])) (br (bAnd (iEq i51 (nrows r7)) (bAnd (okR 2 r7) (bAnd (okR 2 [[MV.str s, MV.str s_1]]) (fits (nrows r7) (nrows [[MV.str s, MV.str s_1]]) 32)))) (self r0 r1 r2 r3 r4 r5 r6 (catR r7 [[MV.str s, MV.str s_1]]) r8 b9 i10 r11 r12 i13 s14 s15 b16 i17 i18 i19 i20 s21 s22 i23 s24 s25 i26 i27 s28 i29 i30 s31 s32 s33 s34 s35 i36 b37 i38 i39 r40 i41 s42 s43 i44 s45 s46 i47 i48 s49 i50 (nrows (catR r7 [[MV.str s, MV.str s_1]])) s52 s53 s54 s55 s56 i57 s58 r59 i60 r61 i62 i63 i64 i65 (iAdd IntKind.i64 i66 1)) none) none) none) none)) none) none) (k10 r0 r1 r2 r3 r4 r5 r6 r7 b9 i10 r11 r12 i13 s14 s15 b16 i17 i18 i19 i20 s21 s22 i23 s24 s25 i26 i27 s28 i29 i30 s31 s32 s33 s34 s35 i36 b37 i38 i39 r40 i41 s42 s43 i44 s45 s46 i47 i48 s49 i50 i51 s52 s53 s54 s55 s56 i57 s58 r59 r61 i62 (iAdd IntKind.i64 i63 1))
def P_148_13 (rec : Run) (k10 : List Row → List Row → List Row → List Row → List Row → List Row → List Row → List Row → Bool → Int → List Row → List Row → Int → ByteArray → ByteArray → Bool → Int → Int → Int → Int → ByteArray → ByteArray → Int → ByteArray → ByteArray → Int → Int → ByteArray → Int → Int → ByteArray → ByteArray → ByteArray → ByteArray → ByteArray → Int → Bool → Int → Int → List Row → Int → ByteArray → ByteArray → Int → ByteArray → ByteArray → Int → Int → ByteArray → Int → Int → ByteArray → ByteArray → ByteArray → ByteArray → ByteArray → Int → ByteArray → List Row → List Row → Int → Int → Option Res) (n : Nat) : List Row → List Row → List Row → List Row → List Row → List Row → List Row → List Row → List Row → Bool → Int → List Row → List Row → Int → ByteArray → ByteArray → Bool → Int → Int → Int → Int → ByteArray → ByteArray → Int → ByteArray → ByteArray → Int → Int → ByteArray → Int → Int → ByteArray → ByteArray → ByteArray → ByteArray → ByteArray → Int → Bool → Int → Int → List Row → Int → ByteArray → ByteArray → Int → ByteArray → ByteArray → Int → Int → ByteArray → Int → Int → ByteArray → ByteArray → ByteArray → ByteArray → ByteArray → Int → ByteArray → List Row → Int → List Row → Int → Int → Int → Int → Int → Option Res := Nat.rec (motive := fun _ => List Row → List Row → List Row → List Row → List Row → List Row → List Row → List Row → List Row → Bool → Int → List Row → List Row → Int → ByteArray → ByteArray → Bool → Int → Int → Int → Int → ByteArray → ByteArray → Int → ByteArray → ByteArray → Int → Int → ByteArray → Int → Int → ByteArray → ByteArray → ByteArray → ByteArray → ByteArray → Int → Bool → Int → Int → List Row → Int → ByteArray → ByteArray → Int → ByteArray → ByteArray → Int → Int → ByteArray → Int → Int → ByteArray → ByteArray → ByteArray → ByteArray → ByteArray → Int → ByteArray → List Row → Int → List Row → Int → Int → Int → Int → Int → Option Res) (fun _ _ _ _ _ _ _ _ _ _ _ _ _ _ _ _ _ _ _ _ _ _ _ _ _ _ _ _ _ _ _ _ _ _ _ _ _ _ _ _ _ _ _ _ _ _ _ _ _ _ _ _ _ _ _ _ _ _ _ _ _ _ _ _ _ _ _ => none) (fun _ self => B_148_13 rec k10 self) n
theorem p_148_13 (D : Nat) (n10 : Nat) : ∀ (n : Nat) (r0 : List Row) (r1 : List Row) (r2 : List Row) (r3 : List Row) (r4 : List Row) (r5 : List Row) (r6 : List Row) (r7 : List Row) (r8 : List Row) (b9 : Bool) (i10 : Int) (r11 : List Row) (r12 : List Row) (i13 : Int) (s14 : ByteArray) (s15 : ByteArray) (b16 : Bool) (i17 : Int) (i18 : Int) (i19 : Int) (i20 : Int) (s21 : ByteArray) (s22 : ByteArray) (i23 : Int) (s24 : ByteArray) (s25 : ByteArray) (i26 : Int) (i27 : Int) (s28 : ByteArray) (i29 : Int) (i30 : Int) (s31 : ByteArray) (s32 : ByteArray) (s33 : ByteArray) (s34 : ByteArray) (s35 : ByteArray) (i36 : Int) (b37 : Bool) (i38 : Int) (i39 : Int) (r40 : List Row) (i41 : Int) (s42 : ByteArray) (s43 : ByteArray) (i44 : Int) (s45 : ByteArray) (s46 : ByteArray) (i47 : Int) (i48 : Int) (s49 : ByteArray) (i50 : Int) (i51 : Int) (s52 : ByteArray) (s53 : ByteArray) (s54 : ByteArray) (s55 : ByteArray) (s56 : ByteArray) (i57 : Int) (s58 : ByteArray) (r59 : List Row) (i60 : Int) (r61 : List Row) (i62 : Int) (i63 : Int) (i64 : Int) (i65 : Int) (i66 : Int), P_148_13 (ev E LL D) (fun r0 r1 r2 r3 r4 r5 r6 r7 b8 i9 r10 r11 i12 s13 s14 b15 i16 i17 i18 i19 s20 s21 i22 s23 s24 i25 i26 s27 i28 i29 s30 s31 s32 s33 s34 i35 b36 i37 i38 r39 i40 s41 s42 i43 s44 s45 i46 i47 s48 i49 i50 s51 s52 s53 s54 s55 i56 s57 r58 r59 i60 i61 => LP_148_10 LL D n10 r0 r1 r2 r3 r4 r5 r6 r7 b8 i9 r10 r11 i12 s13 s14 b15 i16 i17 i18 i19 s20 s21 i22 s23 s24 i25 i26 s27 i28 i29 s30 s31 s32 s33 s34 i35 b36 i37 i38 r39 i40 s41 s42 i43 s44 s45 i46 i47 s48 i49 i50 s51 s52 s53 s54 s55 i56 s57 r58 r59 i60 i61) n r0 r1 r2 r3 r4 r5 r6 r7 r8 b9 i10 r11 r12 i13 s14 s15 b16 i17 i18 i19 i20 s21 s22 i23 s24 s25 i26 i27 s28 i29 i30 s31 s32 s33 s34 s35 i36 b37 i38 i39 r40 i41 s42 s43 i44 s45 s46 i47 i48 s49 i50 i51 s52 s53 s54 s55 s56 i57 s58 r59 i60 r61 i62 i63 i64 i65 i66 = LP_148_13 LL D n n10 r0 r1 r2 r3 r4 r5 r6 r7 r8 b9 i10 r11 r12 i13 s14 s15 b16 i17 i18 i19 i20 s21 s22 i23 s24 s25 i26 i27 s28 i29 i30 s31 s32 s33 s34 s35 i36 b37 i38 i39 r40 i41 s42 s43 i44 s45 s46 i47 i48 s49 i50 i51 s52 s53 s54 s55 s56 i57 s58 r59 i60 r61 i62 i63 i64 i65 i66
  | 0, _, _, _, _, _, _, _, _, _, _, _, _, _, _, _, _, _, _, _, _, _, _, _, _, _, _, _, _, _, _, _, _, _, _, _, _, _, _, _, _, _, _, _, _, _, _, _, _, _, _, _, _, _, _, _, _, _, _, _, _, _, _, _, _, _, _, _ => by unfold LP_148_13 lp loopN; rfl
  | n + 1, r0, r1, r2, r3, r4, r5, r6, r7, r8, b9, i10, r11, r12, i13, s14, s15, b16, i17, i18, i19, i20, s21, s22, i23, s24, s25, i26, i27, s28, i29, i30, s31, s32, s33, s34, s35, i36, b37, i38, i39, r40, i41, s42, s43, i44, s45, s46, i47, i48, s49, i50, i51, s52, s53, s54, s55, s56, i57, s58, r59, i60, r61, i62, i63, i64, i65, i66 => by
    have ih : P_148_13 (ev E LL D) (fun r0 r1 r2 r3 r4 r5 r6 r7 b8 i9 r10 r11 i12 s13 s14 b15 i16 i17 i18 i19 s20 s21 i22 s23 s24 i25 i26 s27 i28 i29 s30 s31 s32 s33 s34 i35 b36 i37 i38 r39 i40 s41 s42 i43 s44 s45 i46 i47 s48 i49 i50 s51 s52 s53 s54 s55 i56 s57 r58 r59 i60 i61 => LP_148_10 LL D n10 r0 r1 r2 r3 r4 r5 r6 r7 b8 i9 r10 r11 i12 s13 s14 b15 i16 i17 i18 i19 s20 s21 i22 s23 s24 i25 i26 s27 i28 i29 s30 s31 s32 s33 s34 i35 b36 i37 i38 r39 i40 s41 s42 i43 s44 s45 i46 i47 s48 i49 i50 s51 s52 s53 s54 s55 i56 s57 r58 r59 i60 i61) n = fun r0 r1 r2 r3 r4 r5 r6 r7 r8 b9 i10 r11 r12 i13 s14 s15 b16 i17 i18 i19 i20 s21 s22 i23 s24 s25 i26 i27 s28 i29 i30 s31 s32 s33 s34 s35 i36 b37 i38 i39 r40 i41 s42 s43 i44 s45 s46 i47 i48 s49 i50 i51 s52 s53 s54 s55 s56 i57 s58 r59 i60 r61 i62 i63 i64 i65 i66 => LP_148_13 LL D n n10 r0 r1 r2 r3 r4 r5 r6 r7 r8 b9 i10 r11 r12 i13 s14 s15 b16 i17 i18 i19 i20 s21 s22 i23 s24 s25 i26 i27 s28 i29 i30 s31 s32 s33 s34 s35 i36 b37 i38 i39 r40 i41 s42 s43 i44 s45 s46 i47 i48 s49 i50 i51 s52 s53 s54 s55 s56 i57 s58 r59 i60 r61 i62 i63 i64 i65 i66 := by funext r0 r1 r2 r3 r4 r5 r6 r7 r8 b9 i10 r11 r12 i13 s14 s15 b16 i17 i18 i19 i20 s21 s22 i23 s24 s25 i26 i27 s28 i29 i30 s31 s32 s33 s34 s35 i36 b37 i38 i39 r40 i41 s42 s43 i44 s45 s46 i47 i48 s49 i50 i51 s52 s53 s54 s55 s56 i57 s58 r59 i60 r61 i62 i63 i64 i65 i66; exact p_148_13 D n10 n r0 r1 r2 r3 r4 r5 r6 r7 r8 b9 i10 r11 r12 i13 s14 s15 b16 i17 i18 i19 i20 s21 s22 i23 s24 s25 i26 i27 s28 i29 i30 s31 s32 s33 s34 s35 i36 b37 i38 i39 r40 i41 s42 s43 i44 s45 s46 i47 i48 s49 i50 i51 s52 s53 s54 s55 s56 i57 s58 r59 i60 r61 i62 i63 i64 i65 i66
    show B_148_13 (ev E LL D) (fun r0 r1 r2 r3 r4 r5 r6 r7 b8 i9 r10 r11 i12 s13 s14 b15 i16 i17 i18 i19 s20 s21 i22 s23 s24 i25 i26 s27 i28 i29 s30 s31 s32 s33 s34 i35 b36 i37 i38 r39 i40 s41 s42 i43 s44 s45 i46 i47 s48 i49 i50 s51 s52 s53 s54 s55 i56 s57 r58 r59 i60 i61 => LP_148_10 LL D n10 r0 r1 r2 r3 r4 r5 r6 r7 b8 i9 r10 r11 i12 s13 s14 b15 i16 i17 i18 i19 s20 s21 i22 s23 s24 i25 i26 s27 i28 i29 s30 s31 s32 s33 s34 i35 b36 i37 i38 r39 i40 s41 s42 i43 s44 s45 i46 i47 s48 i49 i50 s51 s52 s53 s54 s55 i56 s57 r58 r59 i60 i61) (P_148_13 (ev E LL D) (fun r0 r1 r2 r3 r4 r5 r6 r7 b8 i9 r10 r11 i12 s13 s14 b15 i16 i17 i18 i19 s20 s21 i22 s23 s24 i25 i26 s27 i28 i29 s30 s31 s32 s33 s34 i35 b36 i37 i38 r39 i40 s41 s42 i43 s44 s45 i46 i47 s48 i49 i50 s51 s52 s53 s54 s55 i56 s57 r58 r59 i60 i61 => LP_148_10 LL D n10 r0 r1 r2 r3 r4 r5 r6 r7 b8 i9 r10 r11 i12 s13 s14 b15 i16 i17 i18 i19 s20 s21 i22 s23 s24 i25 i26 s27 i28 i29 s30 s31 s32 s33 s34 i35 b36 i37 i38 r39 i40 s41 s42 i43 s44 s45 i46 i47 s48 i49 i50 s51 s52 s53 s54 s55 i56 s57 r58 r59 i60 i61) n) r0 r1 r2 r3 r4 r5 r6 r7 r8 b9 i10 r11 r12 i13 s14 s15 b16 i17 i18 i19 i20 s21 s22 i23 s24 s25 i26 i27 s28 i29 i30 s31 s32 s33 s34 s35 i36 b37 i38 i39 r40 i41 s42 s43 i44 s45 s46 i47 i48 s49 i50 i51 s52 s53 s54 s55 s56 i57 s58 r59 i60 r61 i62 i63 i64 i65 i66 = _
    rw [ih, LP_148_13_succ]
    unfold B_148_13
    rfl
def B_148_10 (rec : Run) (self : List Row → List Row → List Row → List Row → List Row → List Row → List Row → List Row → Bool → Int → List Row → List Row → Int → ByteArray → ByteArray → Bool → Int → Int → Int → Int → ByteArray → ByteArray → Int → ByteArray → ByteArray → Int → Int → ByteArray → Int → Int → ByteArray → ByteArray → ByteArray → ByteArray → ByteArray → Int → Bool → Int → Int → List Row → Int → ByteArray → ByteArray → Int → ByteArray → ByteArray → Int → Int → ByteArray → Int → Int → ByteArray → ByteArray → ByteArray → ByteArray → ByteArray → Int → ByteArray → List Row → List Row → Int → Int → Option Res) (r0 : List Row) (r1 : List Row) (r2 : List Row) (r3 : List Row) (r4 : List Row) (r5 : List Row) (r6 : List Row) (r7 : List Row) (b8 : Bool) (i9 : Int) (r10 : List Row) (r11 : List Row) (i12 : Int) (s13 : ByteArray) (s14 : ByteArray) (b15 : Bool) (i16 : Int) (i17 : Int) (i18 : Int) (i19 : Int) (s20 : ByteArray) (s21 : ByteArray) (i22 : Int) (s23 : ByteArray) (s24 : ByteArray) (i25 : Int) (i26 : Int) (s27 : ByteArray) (i28 : Int) (i29 : Int) (s30 : ByteArray) (s31 : ByteArray) (s32 : ByteArray) (s33 : ByteArray) (s34 : ByteArray) (i35 : Int) (b36 : Bool) (i37 : Int) (i38 : Int) (r39 : List Row) (i40 : Int) (s41 : ByteArray) (s42 : ByteArray) (i43 : Int) (s44 : ByteArray) (s45 : ByteArray) (i46 : Int) (i47 : Int) (s48 : ByteArray) (i49 : Int) (i50 : Int) (s51 : ByteArray) (s52 : ByteArray) (s53 : ByteArray) (s54 : ByteArray) (s55 : ByteArray) (i56 : Int) (s57 : ByteArray) (r58 : List Row) (r59 : List Row) (i60 : Int) (i61 : Int) : Option Res := br (iLt i61 i60) (bnd (rowZ 1 r59 i61) fun row => bnd (gInt IntKind.i64 (cellAt row 0)) fun n_1 => bnd (rec 179 [MV.int IntKind.i64 n_1] []) fun r => bnd (gInt IntKind.i64 r.1) fun n_2 => br (iEq i35 (nrows r4)) (bnd (rec 178 [MV.agg [MV.sl r4], MV.int IntKind.i64 n_2] []) fun r => bnd (gOwn r.1) fun r => br (iEq (nrows r) (nrows r)) (P_148_13 rec self LL r0 r1 r2 r3 r4 r5 r6 r7 r b8 i9 r10 r11 i12 s13 s14 b15 i16 i17 i18 i19 s20 s21 i22 s23 s24 i25 i26 s27 i28 i29 s30 s31 s32 s33 s34 i35 b36 i37 i38 r39 i40 s41 s42 i43 s44 s45 i46 i47 s48 i49 i50 s51 s52 s53 s54 s55 i56 s57 r58 i61 r59 i60 i61 (nrows r) (nrows r) 0) none) none) (br (iEq i50 (nrows r7)) (bnd (rec 45 [MV.sl r7] []) fun r => bnd (gOwn r.1) fun r => br (iLe 0 i56) (bnd (rec 112 [MV.int IntKind.i64 i9] []) fun r_1 => bnd (gInt IntKind.i64 r_1.1) fun n => bnd (rec 112 [MV.int IntKind.i64 i56] []) fun r_2 => bnd (gInt IntKind.i64 r_2.1) fun n_1 => bnd (rec 155 [MV.int IntKind.i64 n, MV.int IntKind.i64 n_1] []) fun r_3 => bnd (gInt IntKind.i64 r_3.1) fun n => bnd (rec 180 [MV.sl r58, MV.int IntKind.i64 n] []) fun r_4 => bnd (gInt IntKind.i64 r_4.1) fun n => bnd (rowZ 2 r39 n) fun row => bnd (gStr (cellAt row 1)) fun s => br (iEq i38 (nrows r5)) (br (iEq i49 (nrows r6)) (br (iEq (nrows r) (nrows r)) (some (MV.tup [MV.agg [MV.bool b36, MV.int IntKind.i64 i37, MV.sl r5, MV.sl r39, MV.int IntKind.i64 i40, MV.str s41, MV.str s42], MV.agg [MV.int IntKind.i64 i43, MV.str s44, MV.str s45, MV.int IntKind.i64 i46, MV.int IntKind.i64 i47, MV.str s48, MV.sl r6, MV.sl r, MV.str s57, MV.str s57, MV.str s41, MV.str s57, MV.str s], MV.bool true], [])) none) none) none) (br (iEq i38 (nrows r5)) (br (iEq i49 (nrows r6)) (br (iEq (nrows r) (nrows r)) (some (MV.tup [MV.agg [MV.bool b36, MV.int IntKind.i64 i37, MV.sl r5, MV.sl r39, MV.int IntKind.i64 i40, MV.str s41, MV.str s42], MV.agg [MV.int IntKind.i64 i43, MV.str s44, MV.str s45, MV.int IntKind.i64 i46, MV.int IntKind.i64 i47, MV.str s48, MV.sl r6, MV.sl r, MV.str s51, MV.str s52, MV.str s53, MV.str s54, MV.str s55], MV.bool true], [])) none) none) none)) none)
def P_148_10 (rec : Run) (n : Nat) : List Row → List Row → List Row → List Row → List Row → List Row → List Row → List Row → Bool → Int → List Row → List Row → Int → ByteArray → ByteArray → Bool → Int → Int → Int → Int → ByteArray → ByteArray → Int → ByteArray → ByteArray → Int → Int → ByteArray → Int → Int → ByteArray → ByteArray → ByteArray → ByteArray → ByteArray → Int → Bool → Int → Int → List Row → Int → ByteArray → ByteArray → Int → ByteArray → ByteArray → Int → Int → ByteArray → Int → Int → ByteArray → ByteArray → ByteArray → ByteArray → ByteArray → Int → ByteArray → List Row → List Row → Int → Int → Option Res := Nat.rec (motive := fun _ => List Row → List Row → List Row → List Row → List Row → List Row → List Row → List Row → Bool → Int → List Row → List Row → Int → ByteArray → ByteArray → Bool → Int → Int → Int → Int → ByteArray → ByteArray → Int → ByteArray → ByteArray → Int → Int → ByteArray → Int → Int → ByteArray → ByteArray → ByteArray → ByteArray → ByteArray → Int → Bool → Int → Int → List Row → Int → ByteArray → ByteArray → Int → ByteArray → ByteArray → Int → Int → ByteArray → Int → Int → ByteArray → ByteArray → ByteArray → ByteArray → ByteArray → Int → ByteArray → List Row → List Row → Int → Int → Option Res) (fun _ _ _ _ _ _ _ _ _ _ _ _ _ _ _ _ _ _ _ _ _ _ _ _ _ _ _ _ _ _ _ _ _ _ _ _ _ _ _ _ _ _ _ _ _ _ _ _ _ _ _ _ _ _ _ _ _ _ _ _ _ _ => none) (fun _ self => B_148_10 rec self) n
theorem p_148_10 (D : Nat) : ∀ (n : Nat) (r0 : List Row) (r1 : List Row) (r2 : List Row) (r3 : List Row) (r4 : List Row) (r5 : List Row) (r6 : List Row) (r7 : List Row) (b8 : Bool) (i9 : Int) (r10 : List Row) (r11 : List Row) (i12 : Int) (s13 : ByteArray) (s14 : ByteArray) (b15 : Bool) (i16 : Int) (i17 : Int) (i18 : Int) (i19 : Int) (s20 : ByteArray) (s21 : ByteArray) (i22 : Int) (s23 : ByteArray) (s24 : ByteArray) (i25 : Int) (i26 : Int) (s27 : ByteArray) (i28 : Int) (i29 : Int) (s30 : ByteArray) (s31 : ByteArray) (s32 : ByteArray) (s33 : ByteArray) (s34 : ByteArray) (i35 : Int) (b36 : Bool) (i37 : Int) (i38 : Int) (r39 : List Row) (i40 : Int) (s41 : ByteArray) (s42 : ByteArray) (i43 : Int) (s44 : ByteArray) (s45 : ByteArray) (i46 : Int) (i47 : Int) (s48 : ByteArray) (i49 : Int) (i50 : Int) (s51 : ByteArray) (s52 : ByteArray) (s53 : ByteArray) (s54 : ByteArray) (s55 : ByteArray) (i56 : Int) (s57 : ByteArray) (r58 : List Row) (r59 : List Row) (i60 : Int) (i61 : Int), P_148_10 (ev E LL D) n r0 r1 r2 r3 r4 r5 r6 r7 b8 i9 r10 r11 i12 s13 s14 b15 i16 i17 i18 i19 s20 s21 i22 s23 s24 i25 i26 s27 i28 i29 s30 s31 s32 s33 s34 i35 b36 i37 i38 r39 i40 s41 s42 i43 s44 s45 i46 i47 s48 i49 i50 s51 s52 s53 s54 s55 i56 s57 r58 r59 i60 i61 = LP_148_10 LL D n  r0 r1 r2 r3 r4 r5 r6 r7 b8 i9 r10 r11 i12 s13 s14 b15 i16 i17 i18 i19 s20 s21 i22 s23 s24 i25 i26 s27 i28 i29 s30 s31 s32 s33 s34 i35 b36 i37 i38 r39 i40 s41 s42 i43 s44 s45 i46 i47 s48 i49 i50 s51 s52 s53 s54 s55 i56 s57 r58 r59 i60 i61
  | 0, _, _, _, _, _, _, _, _, _, _, _, _, _, _, _, _, _, _, _, _, _, _, _, _, _, _, _, _, _, _, _, _, _, _, _, _, _, _, _, _, _, _, _, _, _, _, _, _, _, _, _, _, _, _, _, _, _, _, _, _, _, _ => by unfold LP_148_10 lp loopN; rfl
  | n + 1, r0, r1, r2, r3, r4, r5, r6, r7, b8, i9, r10, r11, i12, s13, s14, b15, i16, i17, i18, i19, s20, s21, i22, s23, s24, i25, i26, s27, i28, i29, s30, s31, s32, s33, s34, i35, b36, i37, i38, r39, i40, s41, s42, i43, s44, s45, i46, i47, s48, i49, i50, s51, s52, s53, s54, s55, i56, s57, r58, r59, i60, i61 => by
    have ih : P_148_10 (ev E LL D) n = fun r0 r1 r2 r3 r4 r5 r6 r7 b8 i9 r10 r11 i12 s13 s14 b15 i16 i17 i18 i19 s20 s21 i22 s23 s24 i25 i26 s27 i28 i29 s30 s31 s32 s33 s34 i35 b36 i37 i38 r39 i40 s41 s42 i43 s44 s45 i46 i47 s48 i49 i50 s51 s52 s53 s54 s55 i56 s57 r58 r59 i60 i61 => LP_148_10 LL D n  r0 r1 r2 r3 r4 r5 r6 r7 b8 i9 r10 r11 i12 s13 s14 b15 i16 i17 i18 i19 s20 s21 i22 s23 s24 i25 i26 s27 i28 i29 s30 s31 s32 s33 s34 i35 b36 i37 i38 r39 i40 s41 s42 i43 s44 s45 i46 i47 s48 i49 i50 s51 s52 s53 s54 s55 i56 s57 r58 r59 i60 i61 := by funext r0 r1 r2 r3 r4 r5 r6 r7 b8 i9 r10 r11 i12 s13 s14 b15 i16 i17 i18 i19 s20 s21 i22 s23 s24 i25 i26 s27 i28 i29 s30 s31 s32 s33 s34 i35 b36 i37 i38 r39 i40 s41 s42 i43 s44 s45 i46 i47 s48 i49 i50 s51 s52 s53 s54 s55 i56 s57 r58 r59 i60 i61; exact p_148_10 D n r0 r1 r2 r3 r4 r5 r6 r7 b8 i9 r10 r11 i12 s13 s14 b15 i16 i17 i18 i19 s20 s21 i22 s23 s24 i25 i26 s27 i28 i29 s30 s31 s32 s33 s34 i35 b36 i37 i38 r39 i40 s41 s42 i43 s44 s45 i46 i47 s48 i49 i50 s51 s52 s53 s54 s55 i56 s57 r58 r59 i60 i61
    show B_148_10 (ev E LL D) (P_148_10 (ev E LL D) n) r0 r1 r2 r3 r4 r5 r6 r7 b8 i9 r10 r11 i12 s13 s14 b15 i16 i17 i18 i19 s20 s21 i22 s23 s24 i25 i26 s27 i28 i29 s30 s31 s32 s33 s34 i35 b36 i37 i38 r39 i40 s41 s42 i43 s44 s45 i46 i47 s48 i49 i50 s51 s52 s53 s54 s55 i56 s57 r58 r59 i60 i61 = _
    rw [ih, LP_148_10_succ]
    unfold B_148_10
    simp only [p_148_13]
def G_148 (rec : Run) (b1 : Bool) (n2 : Int) (r3 : List Row) (r4 : List Row) (n5 : Int) (s6 : ByteArray) (s7 : ByteArray) (s8 : ByteArray) (n9 : Int) (n10 : Int) (s11 : ByteArray) (s12 : ByteArray) : Option Res := bnd (rec 22 [MV.agg [MV.bool b1, MV.int IntKind.i64 n2, MV.sl r3, MV.sl r4, MV.int IntKind.i64 n5, MV.str s6, MV.str s7]] []) fun r => bnd (gBool r.1) fun b => br (bNot (bNot b)) (br (bNot (bNot b1)) (br (bNot (iLe 12 n5)) (bnd (rec 72 [MV.str s8] []) fun r => bnd (gAggN 5 r.1) fun cs => bnd (gInt IntKind.i64 (cellAt cs 0)) fun n => bnd (gInt IntKind.i64 (cellAt cs 1)) fun n_1 => bnd (gInt IntKind.i64 (cellAt cs 2)) fun n_2 => bnd (gStr (cellAt cs 3)) fun s => bnd (gStr (cellAt cs 4)) fun s => br (bNot (bNot (iEq n 1))) (bnd (rec 73 [MV.int IntKind.i64 n9, MV.int IntKind.i64 n2] []) fun r => bnd (gBool r.1) fun b => br (bNot (bNot b)) (bnd (rec 73 [MV.int IntKind.i64 n10, MV.int IntKind.i64 n2] []) fun r => bnd (gBool r.1) fun b => br (bNot (bNot b)) (bnd (rec 176 [MV.agg [MV.sl r3], MV.int IntKind.i64 n9, MV.int IntKind.i64 n10] []) fun r => bnd (gBool r.1) fun b => br (bNot (bNot b)) (bnd (rec 74 [MV.int IntKind.i64 n9, MV.str s11, MV.str s12] []) fun r => bnd (gBool r.1) fun b => br (bNot (bNot b)) (br (bNot (iLt 300 (iAdd IntKind.i64 (sLen s7) (sLen s8)))) (br (iLt 280 (sLen s6)) (some (MV.tup [MV.agg [MV.bool false, MV.int IntKind.i64 0, MV.sl [], MV.sl [], MV.int IntKind.i64 0, MV.str (bs []), MV.str (bs [])], MV.agg [MV.int IntKind.i64 0, MV.str (bs []), MV.str (bs []), MV.int IntKind.i64 0, MV.int IntKind.i64 0, MV.str (bs []), MV.sl [], MV.sl [], MV.str (bs []), MV.str (bs []), MV.str (bs []), MV.str (bs []), MV.str (bs [])], MV.bool false], [])) (bnd (rec 177 [MV.agg [MV.sl r3], MV.int IntKind.i64 n9, MV.int IntKind.i64 n10, MV.str s11] []) fun r => bnd (gAggN 1 r.1) fun cs => bnd (gOwn (cellAt cs 0)) fun r => bnd (rec 60 [MV.int IntKind.i64 n2] []) fun r_1 => bnd (gSl r_1.1) fun r_2 => br (iEq (nrows r) (nrows r)) (bnd (rec 58 [MV.agg [MV.sl r], MV.int IntKind.i64 n2, MV.str s8] []) fun r_3 => bnd (gAggN 1 r_3.1) fun cs => bnd (gOwn (cellAt cs 0)) fun r_4 => bnd (rec 59 [MV.sl r_2, MV.str s8] []) fun r_5 => bnd (gSl r_5.1) fun r_6 => br (fits (sLen s7) (sLen s8) 1) (bnd (rowZ 2 r_6 (iSub IntKind.i64 (nrows r_2) 1)) fun row => bnd (gStr (cellAt row 1)) fun s => bnd (rec 159 [MV.str s] []) fun r_7 => bnd (gStr r_7.1) fun s => bnd (rec 158 [MV.str s6, MV.str s] []) fun r_8 => bnd (gStr r_8.1) fun s => br (iEq (nrows r_4) (nrows r_4)) (bnd (rec 46 [MV.sl r_4] []) fun r_9 => bnd (gOwn r_9.1) fun r_10 => br (bAnd (okR 1 r_2) (bAnd (iLe 0 0) (bAnd (iLe 0 (iSub IntKind.i64 (nrows r_2) 1)) (iLe (iSub IntKind.i64 (nrows r_2) 1) (nrows r_2))))) (P_148_10 rec LL [] [] [] [] r r_4 r_10 [] b1 n2 r3 r4 n5 s6 s7 false 0 (nrows []) (nrows []) 0 (bs []) (bs []) 0 (bs []) (bs []) 0 0 (bs []) (nrows []) (nrows []) (bs []) (bs []) (bs []) (bs []) (bs []) (nrows r) true n2 (nrows r_4) r_6 (iAdd IntKind.i64 n5 1) s (kCat s7 s8) n2 s7 s8 n9 n10 s11 (nrows r_10) (nrows []) (bs []) (bs []) (bs []) (bs []) (bs []) n9 s12 r_2 (subR r_2 0 (iSub IntKind.i64 (nrows r_2) 1)) (nrows (subR r_2 0 (iSub IntKind.i64 (nrows r_2) 1))) 0) none) none) none) none)) (some (MV.tup [MV.agg [MV.bool false, MV.int IntKind.i64 0, MV.sl [], MV.sl [], MV.int IntKind.i64 0, MV.str (bs []), MV.str (bs [])], MV.agg [MV.int IntKind.i64 0, MV.str (bs []), MV.str (bs []), MV.int IntKind.i64 0, MV.int IntKind.i64 0, MV.str (bs []), MV.sl [], MV.sl [], MV.str (bs []), MV.str (bs []), MV.str (bs []), MV.str (bs []), MV.str (bs [])], MV.bool false], []))) (some (MV.tup [MV.agg [MV.bool false, MV.int IntKind.i64 0, MV.sl [], MV.sl [], MV.int IntKind.i64 0, MV.str (bs []), MV.str (bs [])], MV.agg [MV.int IntKind.i64 0, MV.str (bs []), MV.str (bs []), MV.int IntKind.i64 0, MV.int IntKind.i64 0, MV.str (bs []), MV.sl [], MV.sl [], MV.str (bs []), MV.str (bs []), MV.str (bs []), MV.str (bs []), MV.str (bs [])], MV.bool false], []))) (some (MV.tup [MV.agg [MV.bool false, MV.int IntKind.i64 0, MV.sl [], MV.sl [], MV.int IntKind.i64 0, MV.str (bs []), MV.str (bs [])], MV.agg [MV.int IntKind.i64 0, MV.str (bs []), MV.str (bs []), MV.int IntKind.i64 0, MV.int IntKind.i64 0, MV.str (bs []), MV.sl [], MV.sl [], MV.str (bs []), MV.str (bs []), MV.str (bs []), MV.str (bs []), MV.str (bs [])], MV.bool false], []))) (some (MV.tup [MV.agg [MV.bool false, MV.int IntKind.i64 0, MV.sl [], MV.sl [], MV.int IntKind.i64 0, MV.str (bs []), MV.str (bs [])], MV.agg [MV.int IntKind.i64 0, MV.str (bs []), MV.str (bs []), MV.int IntKind.i64 0, MV.int IntKind.i64 0, MV.str (bs []), MV.sl [], MV.sl [], MV.str (bs []), MV.str (bs []), MV.str (bs []), MV.str (bs []), MV.str (bs [])], MV.bool false], []))) (some (MV.tup [MV.agg [MV.bool false, MV.int IntKind.i64 0, MV.sl [], MV.sl [], MV.int IntKind.i64 0, MV.str (bs []), MV.str (bs [])], MV.agg [MV.int IntKind.i64 0, MV.str (bs []), MV.str (bs []), MV.int IntKind.i64 0, MV.int IntKind.i64 0, MV.str (bs []), MV.sl [], MV.sl [], MV.str (bs []), MV.str (bs []), MV.str (bs []), MV.str (bs []), MV.str (bs [])], MV.bool false], []))) (some (MV.tup [MV.agg [MV.bool false, MV.int IntKind.i64 0, MV.sl [], MV.sl [], MV.int IntKind.i64 0, MV.str (bs []), MV.str (bs [])], MV.agg [MV.int IntKind.i64 0, MV.str (bs []), MV.str (bs []), MV.int IntKind.i64 0, MV.int IntKind.i64 0, MV.str (bs []), MV.sl [], MV.sl [], MV.str (bs []), MV.str (bs []), MV.str (bs []), MV.str (bs []), MV.str (bs [])], MV.bool false], []))) (some (MV.tup [MV.agg [MV.bool false, MV.int IntKind.i64 0, MV.sl [], MV.sl [], MV.int IntKind.i64 0, MV.str (bs []), MV.str (bs [])], MV.agg [MV.int IntKind.i64 0, MV.str (bs []), MV.str (bs []), MV.int IntKind.i64 0, MV.int IntKind.i64 0, MV.str (bs []), MV.sl [], MV.sl [], MV.str (bs []), MV.str (bs []), MV.str (bs []), MV.str (bs []), MV.str (bs [])], MV.bool false], []))) (some (MV.tup [MV.agg [MV.bool false, MV.int IntKind.i64 0, MV.sl [], MV.sl [], MV.int IntKind.i64 0, MV.str (bs []), MV.str (bs [])], MV.agg [MV.int IntKind.i64 0, MV.str (bs []), MV.str (bs []), MV.int IntKind.i64 0, MV.int IntKind.i64 0, MV.str (bs []), MV.sl [], MV.sl [], MV.str (bs []), MV.str (bs []), MV.str (bs []), MV.str (bs []), MV.str (bs [])], MV.bool false], []))) (some (MV.tup [MV.agg [MV.bool false, MV.int IntKind.i64 0, MV.sl [], MV.sl [], MV.int IntKind.i64 0, MV.str (bs []), MV.str (bs [])], MV.agg [MV.int IntKind.i64 0, MV.str (bs []), MV.str (bs []), MV.int IntKind.i64 0, MV.int IntKind.i64 0, MV.str (bs []), MV.sl [], MV.sl [], MV.str (bs []), MV.str (bs []), MV.str (bs []), MV.str (bs []), MV.str (bs [])], MV.bool false], []))
theorem g_148 (D : Nat) (b1 : Bool) (n2 : Int) (r3 : List Row) (r4 : List Row) (n5 : Int) (s6 : ByteArray) (s7 : ByteArray) (s8 : ByteArray) (n9 : Int) (n10 : Int) (s11 : ByteArray) (s12 : ByteArray) : G_148 (ev E LL D) b1 n2 r3 r4 n5 s6 s7 s8 n9 n10 s11 s12 = ev E LL (D + 1) 148 [.agg [.bool b1, .int .i64 n2, .sl r3, .sl r4, .int .i64 n5, .str s6, .str s7], .str s8, .int .i64 n9, .int .i64 n10, .str s11, .str s12] [] := by
  rw [eq_148]
  unfold G_148
  simp only [kCat_eq, p_148_10]
def G_158 (rec : Run) (s1 : ByteArray) (s2 : ByteArray) : Option Res := br (iEq (nrows [[MV.str s1], [MV.str s2]]) (nrows [[MV.str s1], [MV.str s2]])) (bnd (rec 119 [MV.str (bs [101]), MV.sl [[MV.str s1], [MV.str s2]]] []) fun r => bnd (gStr r.1) fun s => some (MV.str s, [])) none
theorem g_158 (D : Nat) (s1 : ByteArray) (s2 : ByteArray) : G_158 (ev E LL D) s1 s2 = ev E LL (D + 1) 158 [.str s1, .str s2] [] := by
  rw [eq_158]
  unfold G_158
  rfl
def G_159 (rec : Run) (s1 : ByteArray) : Option Res := br (iEq (nrows [[MV.str s1]]) (nrows [[MV.str s1]])) (bnd (rec 119 [MV.str (bs [110]), MV.sl [[MV.str s1]]] []) fun r => bnd (gStr r.1) fun s => some (MV.str s, [])) none
theorem g_159 (D : Nat) (s1 : ByteArray) : G_159 (ev E LL D) s1 = ev E LL (D + 1) 159 [.str s1] [] := by
  rw [eq_159]
  unfold G_159
  rfl
def G_164 (rec : Run) (s1 : ByteArray) (s2 : ByteArray) : Option Res := br (iLe (sLen s2) (sLen s1)) (br (bAnd (iLe 0 0) (bAnd (iLe 0 (sLen s2)) (iLe (sLen s2) (sLen s1)))) (some (MV.bool (kEq (kSub s1 0 (sLen s2)) s2), [])) none) (some (MV.bool false, []))
theorem g_164 (D : Nat) (s1 : ByteArray) (s2 : ByteArray) : G_164 (ev E LL D) s1 s2 = ev E LL (D + 1) 164 [.str s1, .str s2] [] := by
  rw [eq_164]
  unfold G_164
  simp only [kSub_eq, kEq_eq]
def G_167 (rec : Run) (n1 : Int) : Option Res := bnd (rec 25 [MV.int IntKind.i64 n1, MV.int IntKind.i64 0, MV.int IntKind.i64 14] []) fun r => bnd (gBool r.1) fun b => some (MV.bool b, [])
theorem g_167 (D : Nat) (n1 : Int) : G_167 (ev E LL D) n1 = ev E LL (D + 1) 167 [.int .i64 n1] [] := by
  rw [eq_167]
  unfold G_167
  rfl
def G_170 (rec : Run) (s1 : ByteArray) : Option Res := br (bNot (iEq (sLen s1) 0)) (bnd (sAt s1 0) fun b => bnd (rec 18 [MV.int IntKind.i64 (iSub IntKind.i64 (iWrap IntKind.i64 b) 65)] []) fun r => bnd (gBool r.1) fun b => br (bNot b) (some (MV.int IntKind.i64 (-1), [])) (bnd (sAt s1 0) fun b => some (MV.int IntKind.i64 (iSub IntKind.i64 (iWrap IntKind.i64 b) 65), []))) (some (MV.int IntKind.i64 (-1), []))
theorem g_170 (D : Nat) (s1 : ByteArray) : G_170 (ev E LL D) s1 = ev E LL (D + 1) 170 [.str s1] [] := by
  rw [eq_170]
  unfold G_170
  rfl
def B_171_2 (rec : Run) (self : ByteArray → Int → Option Res) (s0 : ByteArray) (i1 : Int) : Option Res := br (iLt i1 (sLen s0)) (br (iLt i1 2) (bnd (sAt s0 i1) fun b => br (iLe 48 b) (bnd (sAt s0 i1) fun b => br (iLe b 57) (self s0 (iAdd IntKind.i64 i1 1)) (br (bAnd (iLe 0 0) (bAnd (iLe 0 i1) (iLe i1 (sLen s0)))) (bnd (rec 194 [MV.str (kSub s0 0 i1)] []) fun r => bnd (gTupN 2 r.1) fun vs => bnd (gInt IntKind.i64 (cellAt vs 0)) fun n => bnd (gIf (cellAt vs 1)) fun b => br (bNot (bNot b)) (bnd (sAt s0 0) fun b => br (iEq b 48) (some (MV.tup [MV.int IntKind.i64 0, MV.str s0], [])) (br (bAnd (iLe 0 i1) (bAnd (iLe i1 (sLen s0)) (iLe (sLen s0) (sLen s0)))) (some (MV.tup [MV.int IntKind.i64 n, MV.str (kSub s0 i1 (sLen s0))], [])) none)) (some (MV.tup [MV.int IntKind.i64 0, MV.str s0], []))) none)) (br (bAnd (iLe 0 0) (bAnd (iLe 0 i1) (iLe i1 (sLen s0)))) (bnd (rec 194 [MV.str (kSub s0 0 i1)] []) fun r => bnd (gTupN 2 r.1) fun vs => bnd (gInt IntKind.i64 (cellAt vs 0)) fun n => bnd (gIf (cellAt vs 1)) fun b => br (bNot (bNot b)) (bnd (sAt s0 0) fun b => br (iEq b 48) (some (MV.tup [MV.int IntKind.i64 0, MV.str s0], [])) (br (bAnd (iLe 0 i1) (bAnd (iLe i1 (sLen s0)) (iLe (sLen s0) (sLen s0)))) (some (MV.tup [MV.int IntKind.i64 n, MV.str (kSub s0 i1 (sLen s0))], [])) none)) (some (MV.tup [MV.int IntKind.i64 0, MV.str s0], []))) none)) (br (bAnd (iLe 0 0) (bAnd (iLe 0 i1) (iLe i1 (sLen s0)))) (bnd (rec 194 [MV.str (kSub s0 0 i1)] []) fun r => bnd (gTupN 2 r.1) fun vs => bnd (gInt IntKind.i64 (cellAt vs 0)) fun n => bnd (gIf (cellAt vs 1)) fun b => br (bNot (bNot b)) (bnd (sAt s0 0) fun b => br (iEq b 48) (some (MV.tup [MV.int IntKind.i64 0, MV.str s0], [])) (br (bAnd (iLe 0 i1) (bAnd (iLe i1 (sLen s0)) (iLe (sLen s0) (sLen s0)))) (some (MV.tup [MV.int IntKind.i64 n, MV.str (kSub s0 i1 (sLen s0))], [])) none)) (some (MV.tup [MV.int IntKind.i64 0, MV.str s0], []))) none)) (br (bAnd (iLe 0 0) (bAnd (iLe 0 i1) (iLe i1 (sLen s0)))) (bnd (rec 194 [MV.str (kSub s0 0 i1)] []) fun r => bnd (gTupN 2 r.1) fun vs => bnd (gInt IntKind.i64 (cellAt vs 0)) fun n => bnd (gIf (cellAt vs 1)) fun b => br (bNot (bNot b)) (bnd (sAt s0 0) fun b => br (iEq b 48) (some (MV.tup [MV.int IntKind.i64 0, MV.str s0], [])) (br (bAnd (iLe 0 i1) (bAnd (iLe i1 (sLen s0)) (iLe (sLen s0) (sLen s0)))) (some (MV.tup [MV.int IntKind.i64 n, MV.str (kSub s0 i1 (sLen s0))], [])) none)) (some (MV.tup [MV.int IntKind.i64 0, MV.str s0], []))) none)
def P_171_2 (rec : Run) (n : Nat) : ByteArray → Int → Option Res := Nat.rec (motive := fun _ => ByteArray → Int → Option Res) (fun _ _ => none) (fun _ self => B_171_2 rec self) n
theorem p_171_2 (D : Nat) : ∀ (n : Nat) (s0 : ByteArray) (i1 : Int), P_171_2 (ev E LL D) n s0 i1 = LP_171_2 LL D n  s0 i1
  | 0, _, _ => by unfold LP_171_2 lp loopN; rfl
  | n + 1, s0, i1 => by
    have ih : P_171_2 (ev E LL D) n = fun s0 i1 => LP_171_2 LL D n  s0 i1 := by funext s0 i1; exact p_171_2 D n s0 i1
    show B_171_2 (ev E LL D) (P_171_2 (ev E LL D) n) s0 i1 = _
    rw [ih, LP_171_2_succ]
    unfold B_171_2
    simp only [kSub_eq]
def G_171 (rec : Run) (s1 : ByteArray) : Option Res := P_171_2 rec LL s1 0
theorem g_171 (D : Nat) (s1 : ByteArray) : G_171 (ev E LL D) s1 = ev E LL (D + 1) 171 [.str s1] [] := by
  rw [eq_171]
  unfold G_171
  simp only [p_171_2]
def G_176 (rec : Run) (r1 : List Row) (n2 : Int) (n3 : Int) : Option Res := br (bNot (iLt n3 0)) (bnd (rec 64 [MV.agg [MV.sl r1], MV.int IntKind.i64 n3] []) fun r => bnd (gBool r.1) fun b => br b (br (bNot (iLt n2 0)) (bnd (rec 64 [MV.agg [MV.sl r1], MV.int IntKind.i64 n2] []) fun r => bnd (gBool r.1) fun b => br (bNot (bNot b)) (some (MV.bool (iEq n2 n3), [])) (some (MV.bool true, []))) (some (MV.bool true, []))) (some (MV.bool false, []))) (br (bNot (iLt n2 0)) (bnd (rec 64 [MV.agg [MV.sl r1], MV.int IntKind.i64 n2] []) fun r => bnd (gBool r.1) fun b => br (bNot (bNot b)) (some (MV.bool (iEq n2 n3), [])) (some (MV.bool true, []))) (some (MV.bool true, [])))
theorem g_176 (D : Nat) (r1 : List Row) (n2 : Int) (n3 : Int) : G_176 (ev E LL D) r1 n2 n3 = ev E LL (D + 1) 176 [.agg [.sl r1], .int .i64 n2, .int .i64 n3] [] := by
  rw [eq_176]
  unfold G_176
  rfl
def G_177 (rec : Run) (r1 : List Row) (n2 : Int) (n3 : Int) (s4 : ByteArray) : Option Res := bnd (rec 110 [MV.agg [MV.sl r1]] []) fun r => bnd (gAggN 1 r.1) fun cs => bnd (gOwn (cellAt cs 0)) fun r => br (iLe 0 n3) (br (iEq (nrows r) (nrows r)) (bnd (rec 195 [MV.agg [MV.sl r], MV.int IntKind.i64 n3] []) fun r => bnd (gAggN 1 r.1) fun cs => bnd (gOwn (cellAt cs 0)) fun r => br (iLe 0 n2) (br (iEq (nrows r) (nrows r)) (bnd (rec 195 [MV.agg [MV.sl r], MV.int IntKind.i64 n2] []) fun r => bnd (gAggN 1 r.1) fun cs => bnd (gOwn (cellAt cs 0)) fun r => bnd (rec 112 [MV.int IntKind.i64 n2] []) fun r_1 => bnd (gInt IntKind.i64 r_1.1) fun n => br (iEq (nrows r) (nrows r)) (bnd (rowZ 1 r n) fun x => br (iEq (nrows r) (nrows r)) (bnd (rowAt r n) fun row => br (iLe 1 (rowLen row)) (br (iEq (nrows r) (nrows (setR r n (setRow row 0 [MV.str s4])))) (some (MV.agg [MV.own (setR r n (setRow row 0 [MV.str s4]))], [])) none) none) none) none) none) (br (iEq (nrows r) (nrows r)) (some (MV.agg [MV.own r], [])) none)) none) (br (iLe 0 n2) (br (iEq (nrows r) (nrows r)) (bnd (rec 195 [MV.agg [MV.sl r], MV.int IntKind.i64 n2] []) fun r => bnd (gAggN 1 r.1) fun cs => bnd (gOwn (cellAt cs 0)) fun r => bnd (rec 112 [MV.int IntKind.i64 n2] []) fun r_1 => bnd (gInt IntKind.i64 r_1.1) fun n => br (iEq (nrows r) (nrows r)) (bnd (rowZ 1 r n) fun x => br (iEq (nrows r) (nrows r)) (bnd (rowAt r n) fun row => br (iLe 1 (rowLen row)) (br (iEq (nrows r) (nrows (setR r n (setRow row 0 [MV.str s4])))) (some (MV.agg [MV.own (setR r n (setRow row 0 [MV.str s4]))], [])) none) none) none) none) none) (br (iEq (nrows r) (nrows r)) (some (MV.agg [MV.own r], [])) none))
theorem g_177 (D : Nat) (r1 : List Row) (n2 : Int) (n3 : Int) (s4 : ByteArray) : G_177 (ev E LL D) r1 n2 n3 s4 = ev E LL (D + 1) 177 [.agg [.sl r1], .int .i64 n2, .int .i64 n3, .str s4] [] := by
  rw [eq_177]
  unfold G_177
  rfl
def G_178 (rec : Run) (r1 : List Row) (n2 : Int) : Option Res := bnd (rowZ 1 r1 n2) fun row => bnd (gStr (cellAt row 0)) fun s => br (bNot (kEq s (bs []))) (br (iEq (nrows [[MV.int IntKind.i64 n2]]) (nrows [[MV.int IntKind.i64 n2]])) (some (MV.own [[MV.int IntKind.i64 n2]], [])) none) (br (iLe 7 n2) (some (MV.own [], [])) (bnd (rec 178 [MV.agg [MV.sl r1], MV.int IntKind.i64 (iAdd IntKind.i64 (iMul IntKind.i64 2 n2) 1)] []) fun r => bnd (gOwn r.1) fun r => bnd (rec 178 [MV.agg [MV.sl r1], MV.int IntKind.i64 (iAdd IntKind.i64 (iMul IntKind.i64 2 n2) 2)] []) fun r_1 => bnd (gOwn r_1.1) fun r_2 => br (iEq (nrows r_2) (nrows r_2)) (br (bAnd (iEq (nrows r) (nrows r)) (bAnd (okR 1 r) (bAnd (okR 1 r_2) (fits (nrows r) (nrows r_2) 8)))) (br (iEq (nrows (catR r r_2)) (nrows (catR r r_2))) (some (MV.own (catR r r_2), [])) none) none) none))
theorem g_178 (D : Nat) (r1 : List Row) (n2 : Int) : G_178 (ev E LL D) r1 n2 = ev E LL (D + 1) 178 [.agg [.sl r1], .int .i64 n2] [] := by
  rw [eq_178]
  unfold G_178
  simp only [kEq_eq]
def G_179 (rec : Run) (n1 : Int) : Option Res := bnd (rec 167 [MV.int IntKind.i64 n1] []) fun r => bnd (gBool r.1) fun b => br (bNot (bNot b)) (br (iEq n1 0) (some (MV.int IntKind.i64 (-1), [])) (br (iEq 2 0) none (br (iEq (iRem n1 2) 1) (some (MV.int IntKind.i64 (iAdd IntKind.i64 n1 1), [])) (some (MV.int IntKind.i64 (iSub IntKind.i64 n1 1), []))))) (some (MV.int IntKind.i64 (-1), []))
theorem g_179 (D : Nat) (n1 : Int) : G_179 (ev E LL D) n1 = ev E LL (D + 1) 179 [.int .i64 n1] [] := by
  rw [eq_179]
  unfold G_179
  rfl
def J_48_21 (rec : Run) (r0 : List Row) (r1 : List Row) (r2 : List Row) (r3 : List Row) (r4 : List Row) (r5 : List Row) (r6 : List Row) (r7 : List Row) (r8 : List Row) (r9 : List Row) (i10 : Int) (i11 : Int) (i12 : Int) (i13 : Int) (i14 : Int) (i15 : Int) (i16 : Int) (i17 : Int) (i18 : Int) (i19 : Int) (i20 : Int) (i21 : Int) (i22 : Int) (i23 : Int) (i24 : Int) (s25 : ByteArray) (i26 : Int) (i27 : Int) (b28 : Bool) : Option Res := br b28 (br (iEq i26 (nrows r0)) (br (iEq i26 (nrows r0)) (bnd (rowAt r0 i27) fun row => bnd (gBool (cellAt row 0)) fun b => bnd (gInt IntKind.i64 (cellAt row 1)) fun n => bnd (gSl (cellAt row 2)) fun r => bnd (gSl (cellAt row 3)) fun r_1 => bnd (gInt IntKind.i64 (cellAt row 4)) fun n_1 => bnd (gStr (cellAt row 5)) fun s => bnd (gStr (cellAt row 6)) fun s_1 => br (iEq i18 (nrows r7)) (bnd (rowZ 1 r7 i21) fun x => br (iEq i18 (nrows r7)) (bnd (rowAt r7 i21) fun row => bnd (gSl (cellAt row 0)) fun r_2 => br (iEq i16 (nrows r5)) (bnd (rowZ 4 r5 i24) fun x => br (iEq i16 (nrows r5)) (bnd (rowAt r5 i24) fun row => bnd (gInt IntKind.i64 (cellAt row 0)) fun n_2 => bnd (gStr (cellAt row 1)) fun s_2 => bnd (gInt IntKind.i64 (cellAt row 2)) fun n_3 => bnd (gStr (cellAt row 3)) fun s_3 => bnd (rec 99 [MV.agg [MV.bool b, MV.int IntKind.i64 n, MV.sl r, MV.sl r_1, MV.int IntKind.i64 n_1, MV.str s, MV.str s_1], MV.sl r_2, MV.agg [MV.int IntKind.i64 n_2, MV.str s_2, MV.int IntKind.i64 n_3, MV.str s_3]] []) fun r => bnd (gTupN 2 r.1) fun vs => bnd (gSl (cellAt vs 0)) fun r => bnd (gBool (cellAt vs 1)) fun b => br b (br (iEq i18 (nrows r7)) (bnd (rowZ 1 r7 i21) fun x => br (iEq i18 (nrows r7)) (bnd (rowAt r7 i21) fun row => br (iLe 1 (rowLen row)) (br (iEq (nrows [[MV.int IntKind.i64 i21, MV.int IntKind.i64 i24]]) (nrows [[MV.int IntKind.i64 i21, MV.int IntKind.i64 i24]])) (br (bAnd (iEq i19 (nrows r8)) (bAnd (okR 2 r8) (bAnd (okR 2 [[MV.int IntKind.i64 i21, MV.int IntKind.i64 i24]]) (fits (nrows r8) (nrows [[MV.int IntKind.i64 i21, MV.int IntKind.i64 i24]]) 16)))) (br (iEq i10 (nrows r0)) (br (iEq i11 (nrows r9)) (br (iEq i12 (nrows r1)) (br (iEq i13 (nrows r2)) (br (iEq i14 (nrows r3)) (br (iEq i15 (nrows r4)) (br (iEq i16 (nrows r5)) (br (iEq i17 (nrows r6)) (br (iEq i18 (nrows (setR r7 i21 (setRow row 0 [MV.sl r])))) (br (iEq (nrows (catR r8 [[MV.int IntKind.i64 i21, MV.int IntKind.i64 i24]])) (nrows (catR r8 [[MV.int IntKind.i64 i21, MV.int IntKind.i64 i24]]))) (some (MV.tup [], [Obj.cells [MV.own r0, MV.ownK r9, MV.own r1, MV.own r2, MV.own r3, MV.own r4, MV.own r5, MV.own r6, MV.own (setR r7 i21 (setRow row 0 [MV.sl r])), MV.own (catR r8 [[MV.int IntKind.i64 i21, MV.int IntKind.i64 i24]])]])) none) none) none) none) none) none) none) none) none) none) none) none) none) none) none) (br (iEq i10 (nrows r0)) (br (iEq i11 (nrows r9)) (br (iEq i12 (nrows r1)) (br (iEq i13 (nrows r2)) (br (iEq i14 (nrows r3)) (br (iEq i15 (nrows r4)) (br (iEq i16 (nrows r5)) (br (iEq i17 (nrows r6)) (br (iEq i18 (nrows r7)) (br (iEq i19 (nrows r8)) (some (MV.tup [], [Obj.cells [MV.own r0, MV.ownK r9, MV.own r1, MV.own r2, MV.own r3, MV.own r4, MV.own r5, MV.own r6, MV.own r7, MV.own r8]])) none) none) none) none) none) none) none) none) none) none)) none) none) none) none) none) none) (br (iEq i10 (nrows r0)) (br (iEq i11 (nrows r9)) (br (iEq i12 (nrows r1)) (br (iEq i13 (nrows r2)) (br (iEq i14 (nrows r3)) (br (iEq i15 (nrows r4)) (br (iEq i16 (nrows r5)) (br (iEq i17 (nrows r6)) (br (iEq i18 (nrows r7)) (br (iEq i19 (nrows r8)) (some (MV.tup [], [Obj.cells [MV.own r0, MV.ownK r9, MV.own r1, MV.own r2, MV.own r3, MV.own r4, MV.own r5, MV.own r6, MV.own r7, MV.own r8]])) none) none) none) none) none) none) none) none) none) none)
theorem j_48_21 (D : Nat) (r0 : List Row) (r1 : List Row) (r2 : List Row) (r3 : List Row) (r4 : List Row) (r5 : List Row) (r6 : List Row) (r7 : List Row) (r8 : List Row) (r9 : List Row) (i10 : Int) (i11 : Int) (i12 : Int) (i13 : Int) (i14 : Int) (i15 : Int) (i16 : Int) (i17 : Int) (i18 : Int) (i19 : Int) (i20 : Int) (i21 : Int) (i22 : Int) (i23 : Int) (i24 : Int) (s25 : ByteArray) (i26 : Int) (i27 : Int) (b28 : Bool) : J_48_21 (ev E LL D) r0 r1 r2 r3 r4 r5 r6 r7 r8 r9 i10 i11 i12 i13 i14 i15 i16 i17 i18 i19 i20 i21 i22 i23 i24 s25 i26 i27 b28 = JP_48_21 LL D  r0 r1 r2 r3 r4 r5 r6 r7 r8 r9 i10 i11 i12 i13 i14 i15 i16 i17 i18 i19 i20 i21 i22 i23 i24 s25 i26 i27 b28 := by
  rw [JP_48_21_eq]
  unfold J_48_21
  rfl
def J_48_16 (rec : Run) (r0 : List Row) (r1 : List Row) (r2 : List Row) (r3 : List Row) (r4 : List Row) (r5 : List Row) (r6 : List Row) (r7 : List Row) (r8 : List Row) (r9 : List Row) (i10 : Int) (i11 : Int) (i12 : Int) (i13 : Int) (i14 : Int) (i15 : Int) (i16 : Int) (i17 : Int) (i18 : Int) (i19 : Int) (i20 : Int) (i21 : Int) (i22 : Int) (i23 : Int) (i24 : Int) (s25 : ByteArray) (i26 : Int) (i27 : Int) (b28 : Bool) (b29 : Bool) : Option Res := br b29 (br (iEq i26 (nrows r0)) (br (iEq i26 (nrows r0)) (bnd (rowAt r0 i27) fun row => bnd (gBool (cellAt row 0)) fun b => bnd (gInt IntKind.i64 (cellAt row 1)) fun n => bnd (gSl (cellAt row 2)) fun r => bnd (gSl (cellAt row 3)) fun r_1 => bnd (gInt IntKind.i64 (cellAt row 4)) fun n_1 => bnd (gStr (cellAt row 5)) fun s => bnd (gStr (cellAt row 6)) fun s_1 => br (iEq i17 (nrows r6)) (bnd (rowZ 1 r6 i21) fun x => br (iEq i17 (nrows r6)) (bnd (rowAt r6 i21) fun row => bnd (gInt IntKind.i64 (cellAt row 0)) fun n_2 => bnd (rec 98 [MV.agg [MV.bool b, MV.int IntKind.i64 n, MV.sl r, MV.sl r_1, MV.int IntKind.i64 n_1, MV.str s, MV.str s_1], MV.int IntKind.i64 (iAdd IntKind.i64 n_2 1), MV.str s25] []) fun r => bnd (gTupN 2 r.1) fun vs => bnd (gAggN 4 (cellAt vs 0)) fun cs => bnd (gInt IntKind.i64 (cellAt cs 0)) fun n => bnd (gStr (cellAt cs 1)) fun s => bnd (gInt IntKind.i64 (cellAt cs 2)) fun n_3 => bnd (gStr (cellAt cs 3)) fun s_2 => bnd (gBool (cellAt vs 1)) fun b => br b (br (iEq (nrows [[MV.int IntKind.i64 n, MV.str s, MV.int IntKind.i64 n_3, MV.str s_2]]) (nrows [[MV.int IntKind.i64 n, MV.str s, MV.int IntKind.i64 n_3, MV.str s_2]])) (br (bAnd (iEq i16 (nrows r5)) (bAnd (okR 4 r5) (bAnd (okR 4 [[MV.int IntKind.i64 n, MV.str s, MV.int IntKind.i64 n_3, MV.str s_2]]) (fits (nrows r5) (nrows [[MV.int IntKind.i64 n, MV.str s, MV.int IntKind.i64 n_3, MV.str s_2]]) 48)))) (br (iEq i17 (nrows r6)) (bnd (rowZ 1 r6 i21) fun x => br (iEq i17 (nrows r6)) (bnd (rowAt r6 i21) fun row => bnd (gInt IntKind.i64 (cellAt row 0)) fun n_4 => br (iEq i17 (nrows r6)) (bnd (rowZ 1 r6 i21) fun x => br (iEq i17 (nrows r6)) (bnd (rowAt r6 i21) fun row => br (iLe 1 (rowLen row)) (br (iEq i10 (nrows r0)) (br (iEq i11 (nrows r9)) (br (iEq i12 (nrows r1)) (br (iEq i13 (nrows r2)) (br (iEq i14 (nrows r3)) (br (iEq i15 (nrows r4)) (br (iEq (nrows (catR r5 [[MV.int IntKind.i64 n, MV.str s, MV.int IntKind.i64 n_3, MV.str s_2]])) (nrows (catR r5 [[MV.int IntKind.i64 n, MV.str s, MV.int IntKind.i64 n_3, MV.str s_2]]))) (br (iEq i17 (nrows (setR r6 i21 (setRow row 0 [MV.int IntKind.i64 (iAdd IntKind.i64 n_4 1)])))) (br (iEq i18 (nrows r7)) (br (iEq i19 (nrows r8)) (some (MV.tup [], [Obj.cells [MV.own r0, MV.ownK r9, MV.own r1, MV.own r2, MV.own r3, MV.own r4, MV.own (catR r5 [[MV.int IntKind.i64 n, MV.str s, MV.int IntKind.i64 n_3, MV.str s_2]]), MV.own (setR r6 i21 (setRow row 0 [MV.int IntKind.i64 (iAdd IntKind.i64 n_4 1)])), MV.own r7, MV.own r8]])) none) none) none) none) none) none) none) none) none) none) none) none) none) none) none) none) none) (br (iEq i10 (nrows r0)) (br (iEq i11 (nrows r9)) (br (iEq i12 (nrows r1)) (br (iEq i13 (nrows r2)) (br (iEq i14 (nrows r3)) (br (iEq i15 (nrows r4)) (br (iEq i16 (nrows r5)) (br (iEq i17 (nrows r6)) (br (iEq i18 (nrows r7)) (br (iEq i19 (nrows r8)) (some (MV.tup [], [Obj.cells [MV.own r0, MV.ownK r9, MV.own r1, MV.own r2, MV.own r3, MV.own r4, MV.own r5, MV.own r6, MV.own r7, MV.own r8]])) none) none) none) none) none) none) none) none) none) none)) none) none) none) none) (br (iEq i20 6) (br b28 (br (iEq i19 (nrows r8)) (J_48_21 rec r0 r1 r2 r3 r4 r5 r6 r7 r8 r9 i10 i11 i12 i13 i14 i15 i16 i17 i18 i19 i20 i21 i22 i23 i24 s25 i26 i27 (iLt (nrows r8) 320)) none) (J_48_21 rec r0 r1 r2 r3 r4 r5 r6 r7 r8 r9 i10 i11 i12 i13 i14 i15 i16 i17 i18 i19 i20 i21 i22 i23 i24 s25 i26 i27 false)) (J_48_21 rec r0 r1 r2 r3 r4 r5 r6 r7 r8 r9 i10 i11 i12 i13 i14 i15 i16 i17 i18 i19 i20 i21 i22 i23 i24 s25 i26 i27 false))
theorem j_48_16 (D : Nat) (r0 : List Row) (r1 : List Row) (r2 : List Row) (r3 : List Row) (r4 : List Row) (r5 : List Row) (r6 : List Row) (r7 : List Row) (r8 : List Row) (r9 : List Row) (i10 : Int) (i11 : Int) (i12 : Int) (i13 : Int) (i14 : Int) (i15 : Int) (i16 : Int) (i17 : Int) (i18 : Int) (i19 : Int) (i20 : Int) (i21 : Int) (i22 : Int) (i23 : Int) (i24 : Int) (s25 : ByteArray) (i26 : Int) (i27 : Int) (b28 : Bool) (b29 : Bool) : J_48_16 (ev E LL D) r0 r1 r2 r3 r4 r5 r6 r7 r8 r9 i10 i11 i12 i13 i14 i15 i16 i17 i18 i19 i20 i21 i22 i23 i24 s25 i26 i27 b28 b29 = JP_48_16 LL D  r0 r1 r2 r3 r4 r5 r6 r7 r8 r9 i10 i11 i12 i13 i14 i15 i16 i17 i18 i19 i20 i21 i22 i23 i24 s25 i26 i27 b28 b29 := by
  rw [JP_48_16_eq]
  unfold J_48_16
  simp only [j_48_21]
def J_48_11 (rec : Run) (r0 : List Row) (r1 : List Row) (r2 : List Row) (r3 : List Row) (r4 : List Row) (r5 : List Row) (r6 : List Row) (r7 : List Row) (r8 : List Row) (r9 : List Row) (i10 : Int) (i11 : Int) (i12 : Int) (i13 : Int) (i14 : Int) (i15 : Int) (i16 : Int) (i17 : Int) (i18 : Int) (i19 : Int) (i20 : Int) (i21 : Int) (i22 : Int) (i23 : Int) (i24 : Int) (s25 : ByteArray) (i26 : Int) (i27 : Int) (b28 : Bool) (b29 : Bool) : Option Res := br b29 (br (iEq i10 (nrows r0)) (br (iEq i11 (nrows r9)) (br (iEq i12 (nrows r1)) (br (iEq i13 (nrows r2)) (br (iEq i14 (nrows r3)) (br (iEq i15 (nrows r4)) (br (iEq i16 (nrows r5)) (br (iEq i17 (nrows r6)) (br (iEq i18 (nrows r7)) (br (iEq i19 (nrows r8)) (bnd (rec 97 [MV.ptr (H.imp 0) 0, MV.agg [MV.int IntKind.i64 i20, MV.int IntKind.i64 i21, MV.int IntKind.i64 i22, MV.int IntKind.i64 i23, MV.int IntKind.i64 i24, MV.str s25]] [Obj.cells [MV.own r0, MV.ownK r9, MV.own r1, MV.own r2, MV.own r3, MV.own r4, MV.own r5, MV.own r6, MV.own r7, MV.own r8]]) fun r => bnd (gCellsN 10 (hdO r.2)) fun ns => bnd (gOwn (cellAt ns 0)) fun s => bnd (gOwnK (cellAt ns 1)) fun s_1 => bnd (gOwn (cellAt ns 2)) fun s_2 => bnd (gOwn (cellAt ns 3)) fun s_3 => bnd (gOwn (cellAt ns 4)) fun s_4 => bnd (gOwn (cellAt ns 5)) fun s_5 => bnd (gOwn (cellAt ns 6)) fun s_6 => bnd (gOwn (cellAt ns 7)) fun s_7 => bnd (gOwn (cellAt ns 8)) fun s_8 => bnd (gOwn (cellAt ns 9)) fun s_9 => bnd (gTupN 0 r.1) fun vs => br (iEq (nrows s) (nrows s)) (br (iEq (nrows s_1) (nrows s_1)) (br (iEq (nrows s_2) (nrows s_2)) (br (iEq (nrows s_3) (nrows s_3)) (br (iEq (nrows s_4) (nrows s_4)) (br (iEq (nrows s_5) (nrows s_5)) (br (iEq (nrows s_6) (nrows s_6)) (br (iEq (nrows s_7) (nrows s_7)) (br (iEq (nrows s_8) (nrows s_8)) (br (iEq (nrows s_9) (nrows s_9)) (some (MV.tup [], [Obj.cells [MV.own s, MV.ownK s_1, MV.own s_2, MV.own s_3, MV.own s_4, MV.own s_5, MV.own s_6, MV.own s_7, MV.own s_8, MV.own s_9]])) none) none) none) none) none) none) none) none) none) none) none) none) none) none) none) none) none) none) none) none) (br (iEq i20 4) (br (iEq i26 (nrows r0)) (br (iEq i26 (nrows r0)) (br (iEq i26 (nrows r0)) (bnd (rowAt r0 i27) fun row => bnd (gBool (cellAt row 0)) fun b => br b (br (iEq i15 (nrows r4)) (br (iLt (nrows r4) 12) (br (iEq i26 (nrows r0)) (br (iEq i26 (nrows r0)) (bnd (rowAt r0 i27) fun row => bnd (gBool (cellAt row 0)) fun b => bnd (gInt IntKind.i64 (cellAt row 1)) fun n => bnd (gSl (cellAt row 2)) fun r => bnd (gSl (cellAt row 3)) fun r_1 => bnd (gInt IntKind.i64 (cellAt row 4)) fun n_1 => bnd (gStr (cellAt row 5)) fun s => bnd (gStr (cellAt row 6)) fun s_1 => bnd (rec 13 [MV.agg [MV.bool b, MV.int IntKind.i64 n, MV.sl r, MV.sl r_1, MV.int IntKind.i64 n_1, MV.str s, MV.str s_1]] []) fun r => bnd (gSl r.1) fun r => br (bAnd (iEq i14 (nrows r3)) (bAnd (okR 1 r3) (bAnd (okR 1 r) (fits (nrows r3) (nrows r) 16)))) (br (iEq i26 (nrows r0)) (br (iEq i26 (nrows r0)) (br (iEq i26 (nrows r0)) (bnd (rowAt r0 i27) fun row => bnd (gStr (cellAt row 6)) fun s => br (iEq (nrows [[MV.int IntKind.i64 i21, MV.str s]]) (nrows [[MV.int IntKind.i64 i21, MV.str s]])) (br (bAnd (iEq i15 (nrows r4)) (bAnd (okR 2 r4) (bAnd (okR 2 [[MV.int IntKind.i64 i21, MV.str s]]) (fits (nrows r4) (nrows [[MV.int IntKind.i64 i21, MV.str s]]) 24)))) (br (iEq i10 (nrows r0)) (br (iEq i11 (nrows r9)) (br (iEq i12 (nrows r1)) (br (iEq i13 (nrows r2)) (br (iEq (nrows (catR r3 r)) (nrows (catR r3 r))) (br (iEq (nrows (catR r4 [[MV.int IntKind.i64 i21, MV.str s]])) (nrows (catR r4 [[MV.int IntKind.i64 i21, MV.str s]]))) (br (iEq i16 (nrows r5)) (br (iEq i17 (nrows r6)) (br (iEq i18 (nrows r7)) (br (iEq i19 (nrows r8)) (some (MV.tup [], [Obj.cells [MV.own r0, MV.ownK r9, MV.own r1, MV.own r2, MV.own (catR r3 r), MV.own (catR r4 [[MV.int IntKind.i64 i21, MV.str s]]), MV.own r5, MV.own r6, MV.own r7, MV.own r8]])) none) none) none) none) none) none) none) none) none) none) none) none) none) none) none) none) none) none) (br (iEq i20 5) (br (iEq i16 (nrows r5)) (br (iLt (nrows r5) 40) (br (iEq i17 (nrows r6)) (bnd (rowZ 1 r6 i21) fun x => br (iEq i17 (nrows r6)) (bnd (rowAt r6 i21) fun row => bnd (gInt IntKind.i64 (cellAt row 0)) fun n => J_48_16 rec r0 r1 r2 r3 r4 r5 r6 r7 r8 r9 i10 i11 i12 i13 i14 i15 i16 i17 i18 i19 i20 i21 i22 i23 i24 s25 i26 i27 b28 (iLt n 999)) none) none) (J_48_16 rec r0 r1 r2 r3 r4 r5 r6 r7 r8 r9 i10 i11 i12 i13 i14 i15 i16 i17 i18 i19 i20 i21 i22 i23 i24 s25 i26 i27 b28 false)) none) (J_48_16 rec r0 r1 r2 r3 r4 r5 r6 r7 r8 r9 i10 i11 i12 i13 i14 i15 i16 i17 i18 i19 i20 i21 i22 i23 i24 s25 i26 i27 b28 false))) none) (br (iEq i20 5) (br (iEq i16 (nrows r5)) (br (iLt (nrows r5) 40) (br (iEq i17 (nrows r6)) (bnd (rowZ 1 r6 i21) fun x => br (iEq i17 (nrows r6)) (bnd (rowAt r6 i21) fun row => bnd (gInt IntKind.i64 (cellAt row 0)) fun n => J_48_16 rec r0 r1 r2 r3 r4 r5 r6 r7 r8 r9 i10 i11 i12 i13 i14 i15 i16 i17 i18 i19 i20 i21 i22 i23 i24 s25 i26 i27 b28 (iLt n 999)) none) none) (J_48_16 rec r0 r1 r2 r3 r4 r5 r6 r7 r8 r9 i10 i11 i12 i13 i14 i15 i16 i17 i18 i19 i20 i21 i22 i23 i24 s25 i26 i27 b28 false)) none) (J_48_16 rec r0 r1 r2 r3 r4 r5 r6 r7 r8 r9 i10 i11 i12 i13 i14 i15 i16 i17 i18 i19 i20 i21 i22 i23 i24 s25 i26 i27 b28 false))) none) none) none) (br (iEq i20 5) (br (iEq i16 (nrows r5)) (br (iLt (nrows r5) 40) (br (iEq i17 (nrows r6)) (bnd (rowZ 1 r6 i21) fun x => br (iEq i17 (nrows r6)) (bnd (rowAt r6 i21) fun row => bnd (gInt IntKind.i64 (cellAt row 0)) fun n => J_48_16 rec r0 r1 r2 r3 r4 r5 r6 r7 r8 r9 i10 i11 i12 i13 i14 i15 i16 i17 i18 i19 i20 i21 i22 i23 i24 s25 i26 i27 b28 (iLt n 999)) none) none) (J_48_16 rec r0 r1 r2 r3 r4 r5 r6 r7 r8 r9 i10 i11 i12 i13 i14 i15 i16 i17 i18 i19 i20 i21 i22 i23 i24 s25 i26 i27 b28 false)) none) (J_48_16 rec r0 r1 r2 r3 r4 r5 r6 r7 r8 r9 i10 i11 i12 i13 i14 i15 i16 i17 i18 i19 i20 i21 i22 i23 i24 s25 i26 i27 b28 false)))
theorem j_48_11 (D : Nat) (r0 : List Row) (r1 : List Row) (r2 : List Row) (r3 : List Row) (r4 : List Row) (r5 : List Row) (r6 : List Row) (r7 : List Row) (r8 : List Row) (r9 : List Row) (i10 : Int) (i11 : Int) (i12 : Int) (i13 : Int) (i14 : Int) (i15 : Int) (i16 : Int) (i17 : Int) (i18 : Int) (i19 : Int) (i20 : Int) (i21 : Int) (i22 : Int) (i23 : Int) (i24 : Int) (s25 : ByteArray) (i26 : Int) (i27 : Int) (b28 : Bool) (b29 : Bool) : J_48_11 (ev E LL D) r0 r1 r2 r3 r4 r5 r6 r7 r8 r9 i10 i11 i12 i13 i14 i15 i16 i17 i18 i19 i20 i21 i22 i23 i24 s25 i26 i27 b28 b29 = JP_48_11 LL D  r0 r1 r2 r3 r4 r5 r6 r7 r8 r9 i10 i11 i12 i13 i14 i15 i16 i17 i18 i19 i20 i21 i22 i23 i24 s25 i26 i27 b28 b29 := by
  rw [JP_48_11_eq]
  unfold J_48_11
  simp only [j_48_16]
def J_48_7 (rec : Run) (r0 : List Row) (r1 : List Row) (r2 : List Row) (r3 : List Row) (r4 : List Row) (r5 : List Row) (r6 : List Row) (r7 : List Row) (r8 : List Row) (r9 : List Row) (i10 : Int) (i11 : Int) (i12 : Int) (i13 : Int) (i14 : Int) (i15 : Int) (i16 : Int) (i17 : Int) (i18 : Int) (i19 : Int) (i20 : Int) (i21 : Int) (i22 : Int) (i23 : Int) (i24 : Int) (s25 : ByteArray) (i26 : Int) (i27 : Int) (b28 : Bool) (b29 : Bool) (b30 : Bool) : Option Res := br b30 (br (iEq i26 (nrows r0)) (br (iEq i26 (nrows r0)) (bnd (rowAt r0 i27) fun row => bnd (gBool (cellAt row 0)) fun b => bnd (gInt IntKind.i64 (cellAt row 1)) fun n => bnd (gSl (cellAt row 2)) fun r => bnd (gSl (cellAt row 3)) fun r_1 => bnd (gInt IntKind.i64 (cellAt row 4)) fun n_1 => bnd (gStr (cellAt row 5)) fun s => bnd (gStr (cellAt row 6)) fun s_1 => br (iEq i12 (nrows r1)) (bnd (rowZ 13 r1 i24) fun x => br (iEq i12 (nrows r1)) (bnd (rowAt r1 i24) fun row => bnd (gInt IntKind.i64 (cellAt row 0)) fun n_2 => bnd (gStr (cellAt row 1)) fun s_2 => bnd (gStr (cellAt row 2)) fun s_3 => bnd (gInt IntKind.i64 (cellAt row 3)) fun n_3 => bnd (gInt IntKind.i64 (cellAt row 4)) fun n_4 => bnd (gStr (cellAt row 5)) fun s_4 => bnd (gSl (cellAt row 6)) fun r_2 => bnd (gSl (cellAt row 7)) fun r_3 => bnd (gStr (cellAt row 8)) fun s_5 => bnd (gStr (cellAt row 9)) fun s_6 => bnd (gStr (cellAt row 10)) fun s_7 => bnd (gStr (cellAt row 11)) fun s_8 => bnd (gStr (cellAt row 12)) fun s_9 => bnd (rec 96 [MV.agg [MV.bool b, MV.int IntKind.i64 n, MV.sl r, MV.sl r_1, MV.int IntKind.i64 n_1, MV.str s, MV.str s_1], MV.agg [MV.int IntKind.i64 n_2, MV.str s_2, MV.str s_3, MV.int IntKind.i64 n_3, MV.int IntKind.i64 n_4, MV.str s_4, MV.sl r_2, MV.sl r_3, MV.str s_5, MV.str s_6, MV.str s_7, MV.str s_8, MV.str s_9]] []) fun r => bnd (gTupN 2 r.1) fun vs => bnd (gAggN 7 (cellAt vs 0)) fun cs => bnd (gBool (cellAt cs 0)) fun b => bnd (gInt IntKind.i64 (cellAt cs 1)) fun n => bnd (gSl (cellAt cs 2)) fun r => bnd (gSl (cellAt cs 3)) fun r_4 => bnd (gInt IntKind.i64 (cellAt cs 4)) fun n_5 => bnd (gStr (cellAt cs 5)) fun s => bnd (gStr (cellAt cs 6)) fun s_10 => bnd (gBool (cellAt vs 1)) fun b_1 => br b_1 (br (iEq i26 (nrows r0)) (br (iEq i26 (nrows r0)) (bnd (rowAt r0 i27) fun row => br (iLe 7 (rowLen row)) (br (iEq i10 (nrows (setR r0 i27 (setRow row 0 [MV.bool b, MV.int IntKind.i64 n, MV.sl r, MV.sl r_4, MV.int IntKind.i64 n_5, MV.str s, MV.str s_10])))) (br (iEq i11 (nrows r9)) (br (iEq i12 (nrows r1)) (br (iEq i13 (nrows r2)) (br (iEq i14 (nrows r3)) (br (iEq i15 (nrows r4)) (br (iEq i16 (nrows r5)) (br (iEq i17 (nrows r6)) (br (iEq i18 (nrows r7)) (br (iEq i19 (nrows r8)) (some (MV.tup [], [Obj.cells [MV.own (setR r0 i27 (setRow row 0 [MV.bool b, MV.int IntKind.i64 n, MV.sl r, MV.sl r_4, MV.int IntKind.i64 n_5, MV.str s, MV.str s_10])), MV.ownK r9, MV.own r1, MV.own r2, MV.own r3, MV.own r4, MV.own r5, MV.own r6, MV.own r7, MV.own r8]])) none) none) none) none) none) none) none) none) none) none) none) none) none) (br (iEq i10 (nrows r0)) (br (iEq i11 (nrows r9)) (br (iEq i12 (nrows r1)) (br (iEq i13 (nrows r2)) (br (iEq i14 (nrows r3)) (br (iEq i15 (nrows r4)) (br (iEq i16 (nrows r5)) (br (iEq i17 (nrows r6)) (br (iEq i18 (nrows r7)) (br (iEq i19 (nrows r8)) (some (MV.tup [], [Obj.cells [MV.own r0, MV.ownK r9, MV.own r1, MV.own r2, MV.own r3, MV.own r4, MV.own r5, MV.own r6, MV.own r7, MV.own r8]])) none) none) none) none) none) none) none) none) none) none)) none) none) none) none) (br (iEq i20 3) (J_48_11 rec r0 r1 r2 r3 r4 r5 r6 r7 r8 r9 i10 i11 i12 i13 i14 i15 i16 i17 i18 i19 i20 i21 i22 i23 i24 s25 i26 i27 b29 b28) (J_48_11 rec r0 r1 r2 r3 r4 r5 r6 r7 r8 r9 i10 i11 i12 i13 i14 i15 i16 i17 i18 i19 i20 i21 i22 i23 i24 s25 i26 i27 b29 false))
theorem j_48_7 (D : Nat) (r0 : List Row) (r1 : List Row) (r2 : List Row) (r3 : List Row) (r4 : List Row) (r5 : List Row) (r6 : List Row) (r7 : List Row) (r8 : List Row) (r9 : List Row) (i10 : Int) (i11 : Int) (i12 : Int) (i13 : Int) (i14 : Int) (i15 : Int) (i16 : Int) (i17 : Int) (i18 : Int) (i19 : Int) (i20 : Int) (i21 : Int) (i22 : Int) (i23 : Int) (i24 : Int) (s25 : ByteArray) (i26 : Int) (i27 : Int) (b28 : Bool) (b29 : Bool) (b30 : Bool) : J_48_7 (ev E LL D) r0 r1 r2 r3 r4 r5 r6 r7 r8 r9 i10 i11 i12 i13 i14 i15 i16 i17 i18 i19 i20 i21 i22 i23 i24 s25 i26 i27 b28 b29 b30 = JP_48_7 LL D  r0 r1 r2 r3 r4 r5 r6 r7 r8 r9 i10 i11 i12 i13 i14 i15 i16 i17 i18 i19 i20 i21 i22 i23 i24 s25 i26 i27 b28 b29 b30 := by
  rw [JP_48_7_eq]
  unfold J_48_7
  simp only [j_48_11]
def G_48 (rec : Run) (r1 : List Row) (r2 : List Row) (r3 : List Row) (r4 : List Row) (r5 : List Row) (r6 : List Row) (r7 : List Row) (r8 : List Row) (r9 : List Row) (r10 : List Row) (n11 : Int) (n12 : Int) (n13 : Int) (n14 : Int) (n15 : Int) (s16 : ByteArray) : Option Res := bnd (rec 18 [MV.int IntKind.i64 n12] []) fun r => bnd (gBool r.1) fun b => br (bNot b) (br (iEq (nrows r1) (nrows r1)) (br (iEq (nrows r2) (nrows r2)) (br (iEq (nrows r3) (nrows r3)) (br (iEq (nrows r4) (nrows r4)) (br (iEq (nrows r5) (nrows r5)) (br (iEq (nrows r6) (nrows r6)) (br (iEq (nrows r7) (nrows r7)) (br (iEq (nrows r8) (nrows r8)) (br (iEq (nrows r9) (nrows r9)) (br (iEq (nrows r10) (nrows r10)) (some (MV.tup [], [Obj.cells [MV.own r1, MV.ownK r2, MV.own r3, MV.own r4, MV.own r5, MV.own r6, MV.own r7, MV.own r8, MV.own r9, MV.own r10]])) none) none) none) none) none) none) none) none) none) none) (br (iEq (nrows r1) (nrows r1)) (bnd (rowZ 7 r1 n12) fun x => br (iEq (nrows r3) (nrows r3)) (bnd (rec 25 [MV.int IntKind.i64 n15, MV.int IntKind.i64 0, MV.int IntKind.i64 (iSub IntKind.i64 (nrows r3) 1)] []) fun r => bnd (gBool r.1) fun b => br (iEq (nrows r7) (nrows r7)) (bnd (rec 25 [MV.int IntKind.i64 n15, MV.int IntKind.i64 0, MV.int IntKind.i64 (iSub IntKind.i64 (nrows r7) 1)] []) fun r => bnd (gBool r.1) fun b_1 => br (iEq n11 1) (br (iEq (nrows r1) (nrows r1)) (br (iEq (nrows r2) (nrows r2)) (br (iEq (nrows r3) (nrows r3)) (br (iEq (nrows r4) (nrows r4)) (br (iEq (nrows r5) (nrows r5)) (br (iEq (nrows r6) (nrows r6)) (br (iEq (nrows r7) (nrows r7)) (br (iEq (nrows r8) (nrows r8)) (br (iEq (nrows r9) (nrows r9)) (br (iEq (nrows r10) (nrows r10)) (bnd (rec 95 [MV.ptr (H.imp 0) 0, MV.agg [MV.int IntKind.i64 n11, MV.int IntKind.i64 n12, MV.int IntKind.i64 n13, MV.int IntKind.i64 n14, MV.int IntKind.i64 n15, MV.str s16]] [Obj.cells [MV.own r1, MV.ownK r2, MV.own r3, MV.own r4, MV.own r5, MV.own r6, MV.own r7, MV.own r8, MV.own r9, MV.own r10]]) fun r => bnd (gCellsN 10 (hdO r.2)) fun ns => bnd (gOwn (cellAt ns 0)) fun s => bnd (gOwnK (cellAt ns 1)) fun s_1 => bnd (gOwn (cellAt ns 2)) fun s_2 => bnd (gOwn (cellAt ns 3)) fun s_3 => bnd (gOwn (cellAt ns 4)) fun s_4 => bnd (gOwn (cellAt ns 5)) fun s_5 => bnd (gOwn (cellAt ns 6)) fun s_6 => bnd (gOwn (cellAt ns 7)) fun s_7 => bnd (gOwn (cellAt ns 8)) fun s_8 => bnd (gOwn (cellAt ns 9)) fun s_9 => bnd (gTupN 0 r.1) fun vs => br (iEq (nrows s) (nrows s)) (br (iEq (nrows s_1) (nrows s_1)) (br (iEq (nrows s_2) (nrows s_2)) (br (iEq (nrows s_3) (nrows s_3)) (br (iEq (nrows s_4) (nrows s_4)) (br (iEq (nrows s_5) (nrows s_5)) (br (iEq (nrows s_6) (nrows s_6)) (br (iEq (nrows s_7) (nrows s_7)) (br (iEq (nrows s_8) (nrows s_8)) (br (iEq (nrows s_9) (nrows s_9)) (some (MV.tup [], [Obj.cells [MV.own s, MV.ownK s_1, MV.own s_2, MV.own s_3, MV.own s_4, MV.own s_5, MV.own s_6, MV.own s_7, MV.own s_8, MV.own s_9]])) none) none) none) none) none) none) none) none) none) none) none) none) none) none) none) none) none) none) none) none) (br (iEq n11 2) (J_48_7 rec r1 r3 r4 r5 r6 r7 r8 r9 r10 r2 (nrows r1) (nrows r2) (nrows r3) (nrows r4) (nrows r5) (nrows r6) (nrows r7) (nrows r8) (nrows r9) (nrows r10) n11 n12 n13 n14 n15 s16 (nrows r1) n12 b b_1 b) (J_48_7 rec r1 r3 r4 r5 r6 r7 r8 r9 r10 r2 (nrows r1) (nrows r2) (nrows r3) (nrows r4) (nrows r5) (nrows r6) (nrows r7) (nrows r8) (nrows r9) (nrows r10) n11 n12 n13 n14 n15 s16 (nrows r1) n12 b b_1 false))) none) none) none)
theorem g_48 (D : Nat) (r1 : List Row) (r2 : List Row) (r3 : List Row) (r4 : List Row) (r5 : List Row) (r6 : List Row) (r7 : List Row) (r8 : List Row) (r9 : List Row) (r10 : List Row) (n11 : Int) (n12 : Int) (n13 : Int) (n14 : Int) (n15 : Int) (s16 : ByteArray) : G_48 (ev E LL D) r1 r2 r3 r4 r5 r6 r7 r8 r9 r10 n11 n12 n13 n14 n15 s16 = ev E LL (D + 1) 48 [.ptr (.imp 0) 0, .agg [.int .i64 n11, .int .i64 n12, .int .i64 n13, .int .i64 n14, .int .i64 n15, .str s16]] [.cells [.own r1, .ownK r2, .own r3, .own r4, .own r5, .own r6, .own r7, .own r8, .own r9, .own r10]] := by
  rw [eq_48]
  unfold G_48
  simp only [j_48_7]
noncomputable def F_3 (D : Nat) (rec : Run) (a : List MV) (i : List Obj) : Option Res := match a, i with
  | [.sl r1], [] => G_3 rec r1
  | a, i => ev E LL (D + 1) 3 a i
theorem f_3 (D : Nat) (a : List MV) (i : List Obj) : F_3 D (ev E LL D) a i = ev E LL (D + 1) 3 a i := by
  unfold F_3
  split
  · exact g_3 D _
  · rfl
noncomputable def F_7 (D : Nat) (rec : Run) (a : List MV) (i : List Obj) : Option Res := match a, i with
  | [.int .i64 n1], [] => G_7 rec n1
  | a, i => ev E LL (D + 1) 7 a i
theorem f_7 (D : Nat) (a : List MV) (i : List Obj) : F_7 D (ev E LL D) a i = ev E LL (D + 1) 7 a i := by
  unfold F_7
  split
  · exact g_7 D _
  · rfl
noncomputable def F_8 (D : Nat) (rec : Run) (a : List MV) (i : List Obj) : Option Res := match a, i with
  | [.agg [.sl r1, .sl r2, .sl r3, .sl r4, .sl r5, .sl r6, .sl r7, .sl r8, .sl r9, .sl r10], .agg [.int .i64 n11, .int .i64 n12, .int .i64 n13, .int .i64 n14, .int .i64 n15, .str s16]], [] => G_8 rec r1 r2 r3 r4 r5 r6 r7 r8 r9 r10 n11 n12 n13 n14 n15 s16
  | a, i => ev E LL (D + 1) 8 a i
theorem f_8 (D : Nat) (a : List MV) (i : List Obj) : F_8 D (ev E LL D) a i = ev E LL (D + 1) 8 a i := by
  unfold F_8
  split
  · exact g_8 D _ _ _ _ _ _ _ _ _ _ _ _ _ _ _ _
  · rfl
noncomputable def F_9 (D : Nat) (rec : Run) (a : List MV) (i : List Obj) : Option Res := match a, i with
  | [.agg [.sl r1, .sl r2, .sl r3, .sl r4, .sl r5, .sl r6, .sl r7, .sl r8, .sl r9, .sl r10]], [] => G_9 rec r1 r2 r3 r4 r5 r6 r7 r8 r9 r10
  | a, i => ev E LL (D + 1) 9 a i
theorem f_9 (D : Nat) (a : List MV) (i : List Obj) : F_9 D (ev E LL D) a i = ev E LL (D + 1) 9 a i := by
  unfold F_9
  split
  · exact g_9 D _ _ _ _ _ _ _ _ _ _
  · rfl
noncomputable def F_10 (D : Nat) (rec : Run) (a : List MV) (i : List Obj) : Option Res := match a, i with
  | [.agg [.sl r1, .sl r2, .sl r3, .sl r4, .sl r5, .sl r6, .sl r7, .sl r8, .sl r9, .sl r10]], [] => G_10 rec r1 r2 r3 r4 r5 r6 r7 r8 r9 r10
  | a, i => ev E LL (D + 1) 10 a i
theorem f_10 (D : Nat) (a : List MV) (i : List Obj) : F_10 D (ev E LL D) a i = ev E LL (D + 1) 10 a i := by
  unfold F_10
  split
  · exact g_10 D _ _ _ _ _ _ _ _ _ _
  · rfl
noncomputable def F_11 (D : Nat) (rec : Run) (a : List MV) (i : List Obj) : Option Res := match a, i with
  | [.agg [.sl r1, .sl r2, .sl r3, .sl r4, .sl r5, .sl r6, .sl r7, .sl r8, .sl r9, .sl r10], .str s11], [] => G_11 rec r1 r2 r3 r4 r5 r6 r7 r8 r9 r10 s11
  | a, i => ev E LL (D + 1) 11 a i
theorem f_11 (D : Nat) (a : List MV) (i : List Obj) : F_11 D (ev E LL D) a i = ev E LL (D + 1) 11 a i := by
  unfold F_11
  split
  · exact g_11 D _ _ _ _ _ _ _ _ _ _ _
  · rfl
noncomputable def F_16 (D : Nat) (rec : Run) (a : List MV) (i : List Obj) : Option Res := match a, i with
  | [.sl r1, .sl r2, .str s3], [] => G_16 rec r1 r2 s3
  | a, i => ev E LL (D + 1) 16 a i
theorem f_16 (D : Nat) (a : List MV) (i : List Obj) : F_16 D (ev E LL D) a i = ev E LL (D + 1) 16 a i := by
  unfold F_16
  split
  · exact g_16 D _ _ _
  · rfl
noncomputable def F_18 (D : Nat) (rec : Run) (a : List MV) (i : List Obj) : Option Res := match a, i with
  | [.int .i64 n1], [] => G_18 rec n1
  | a, i => ev E LL (D + 1) 18 a i
theorem f_18 (D : Nat) (a : List MV) (i : List Obj) : F_18 D (ev E LL D) a i = ev E LL (D + 1) 18 a i := by
  unfold F_18
  split
  · exact g_18 D _
  · rfl
noncomputable def F_19 (D : Nat) (rec : Run) (a : List MV) (i : List Obj) : Option Res := match a, i with
  | [.int .i64 n1, .str s2, .str s3], [] => G_19 rec n1 s2 s3
  | a, i => ev E LL (D + 1) 19 a i
theorem f_19 (D : Nat) (a : List MV) (i : List Obj) : F_19 D (ev E LL D) a i = ev E LL (D + 1) 19 a i := by
  unfold F_19
  split
  · exact g_19 D _ _ _
  · rfl
noncomputable def F_20 (D : Nat) (rec : Run) (a : List MV) (i : List Obj) : Option Res := match a, i with
  | [.int .i64 n1, .int .i64 n2], [] => G_20 rec n1 n2
  | a, i => ev E LL (D + 1) 20 a i
theorem f_20 (D : Nat) (a : List MV) (i : List Obj) : F_20 D (ev E LL D) a i = ev E LL (D + 1) 20 a i := by
  unfold F_20
  split
  · exact g_20 D _ _
  · rfl
noncomputable def F_21 (D : Nat) (rec : Run) (a : List MV) (i : List Obj) : Option Res := match a, i with
  | [.agg [.sl r1, .sl r2, .sl r3, .sl r4, .sl r5, .sl r6, .sl r7, .sl r8, .sl r9, .sl r10], .sl r11], [] => G_21 rec r1 r2 r3 r4 r5 r6 r7 r8 r9 r10 r11
  | a, i => ev E LL (D + 1) 21 a i
theorem f_21 (D : Nat) (a : List MV) (i : List Obj) : F_21 D (ev E LL D) a i = ev E LL (D + 1) 21 a i := by
  unfold F_21
  split
  · exact g_21 D _ _ _ _ _ _ _ _ _ _ _
  · rfl
noncomputable def F_22 (D : Nat) (rec : Run) (a : List MV) (i : List Obj) : Option Res := match a, i with
  | [.agg [.bool b1, .int .i64 n2, .sl r3, .sl r4, .int .i64 n5, .str s6, .str s7]], [] => G_22 rec b1 n2 r3 r4 n5 s6 s7
  | a, i => ev E LL (D + 1) 22 a i
theorem f_22 (D : Nat) (a : List MV) (i : List Obj) : F_22 D (ev E LL D) a i = ev E LL (D + 1) 22 a i := by
  unfold F_22
  split
  · exact g_22 D _ _ _ _ _ _ _
  · rfl
noncomputable def F_23 (D : Nat) (rec : Run) (a : List MV) (i : List Obj) : Option Res := if fnOf a = 24 then (match a, i with
  | [.sl r1, .fn 24 []], [] => G_23024 rec r1
  | a, i => ev E LL (D + 1) 23 a i) else if fnOf a = 26 then (match a, i with
  | [.sl r1, .fn 26 []], [] => G_23026 rec r1
  | a, i => ev E LL (D + 1) 23 a i) else ev E LL (D + 1) 23 a i
theorem f_23 (D : Nat) (a : List MV) (i : List Obj) : F_23 D (ev E LL D) a i = ev E LL (D + 1) 23 a i := by
  unfold F_23
  split
  · split
    · exact g_23024 D _
    · rfl
  split
  · split
    · exact g_23026 D _
    · rfl
  rfl
noncomputable def F_24 (D : Nat) (rec : Run) (a : List MV) (i : List Obj) : Option Res := match a, i with
  | [.int .i64 n1], [] => G_24 rec n1
  | a, i => ev E LL (D + 1) 24 a i
theorem f_24 (D : Nat) (a : List MV) (i : List Obj) : F_24 D (ev E LL D) a i = ev E LL (D + 1) 24 a i := by
  unfold F_24
  split
  · exact g_24 D _
  · rfl
noncomputable def F_25 (D : Nat) (rec : Run) (a : List MV) (i : List Obj) : Option Res := match a, i with
  | [.int .i64 n1, .int .i64 n2, .int .i64 n3], [] => G_25 rec n1 n2 n3
  | a, i => ev E LL (D + 1) 25 a i
theorem f_25 (D : Nat) (a : List MV) (i : List Obj) : F_25 D (ev E LL D) a i = ev E LL (D + 1) 25 a i := by
  unfold F_25
  split
  · exact g_25 D _ _ _
  · rfl
noncomputable def F_26 (D : Nat) (rec : Run) (a : List MV) (i : List Obj) : Option Res := match a, i with
  | [.int .i64 n1], [] => G_26 rec n1
  | a, i => ev E LL (D + 1) 26 a i
theorem f_26 (D : Nat) (a : List MV) (i : List Obj) : F_26 D (ev E LL D) a i = ev E LL (D + 1) 26 a i := by
  unfold F_26
  split
  · exact g_26 D _
  · rfl
noncomputable def F_27 (D : Nat) (rec : Run) (a : List MV) (i : List Obj) : Option Res := match a, i with
  | [.sl r1, .fn 28 []], [] => G_27028 rec r1
  | a, i => ev E LL (D + 1) 27 a i
theorem f_27 (D : Nat) (a : List MV) (i : List Obj) : F_27 D (ev E LL D) a i = ev E LL (D + 1) 27 a i := by
  unfold F_27
  split
  · exact g_27028 D _
  · rfl
noncomputable def F_28 (D : Nat) (rec : Run) (a : List MV) (i : List Obj) : Option Res := match a, i with
  | [.sl r1], [] => G_28 rec r1
  | a, i => ev E LL (D + 1) 28 a i
theorem f_28 (D : Nat) (a : List MV) (i : List Obj) : F_28 D (ev E LL D) a i = ev E LL (D + 1) 28 a i := by
  unfold F_28
  split
  · exact g_28 D _
  · rfl
noncomputable def F_29 (D : Nat) (rec : Run) (a : List MV) (i : List Obj) : Option Res := match a, i with
  | [.sl r1], [] => G_29 rec r1
  | a, i => ev E LL (D + 1) 29 a i
theorem f_29 (D : Nat) (a : List MV) (i : List Obj) : F_29 D (ev E LL D) a i = ev E LL (D + 1) 29 a i := by
  unfold F_29
  split
  · exact g_29 D _
  · rfl
noncomputable def F_30 (D : Nat) (rec : Run) (a : List MV) (i : List Obj) : Option Res := match a, i with
  | [.sl r1, .fn 31 []], [] => G_30031 rec r1
  | a, i => ev E LL (D + 1) 30 a i
theorem f_30 (D : Nat) (a : List MV) (i : List Obj) : F_30 D (ev E LL D) a i = ev E LL (D + 1) 30 a i := by
  unfold F_30
  split
  · exact g_30031 D _
  · rfl
noncomputable def F_31 (D : Nat) (rec : Run) (a : List MV) (i : List Obj) : Option Res := match a, i with
  | [.agg [.int .i64 n1, .str s2, .str s3, .int .i64 n4, .int .i64 n5, .str s6, .sl r7, .sl r8, .str s9, .str s10, .str s11, .str s12, .str s13]], [] => G_31 rec n1 s2 s3 n4 n5 s6 r7 r8 s9 s10 s11 s12 s13
  | a, i => ev E LL (D + 1) 31 a i
theorem f_31 (D : Nat) (a : List MV) (i : List Obj) : F_31 D (ev E LL D) a i = ev E LL (D + 1) 31 a i := by
  unfold F_31
  split
  · exact g_31 D _ _ _ _ _ _ _ _ _ _ _ _ _
  · rfl
noncomputable def F_32 (D : Nat) (rec : Run) (a : List MV) (i : List Obj) : Option Res := match a, i with
  | [.agg [.int .i64 n1, .str s2, .str s3, .int .i64 n4, .int .i64 n5, .str s6, .sl r7, .sl r8, .str s9, .str s10, .str s11, .str s12, .str s13]], [] => G_32 rec n1 s2 s3 n4 n5 s6 r7 r8 s9 s10 s11 s12 s13
  | a, i => ev E LL (D + 1) 32 a i
theorem f_32 (D : Nat) (a : List MV) (i : List Obj) : F_32 D (ev E LL D) a i = ev E LL (D + 1) 32 a i := by
  unfold F_32
  split
  · exact g_32 D _ _ _ _ _ _ _ _ _ _ _ _ _
  · rfl
noncomputable def F_35 (D : Nat) (rec : Run) (a : List MV) (i : List Obj) : Option Res := match a, i with
  | [.str s1], [] => G_35 rec s1
  | a, i => ev E LL (D + 1) 35 a i
theorem f_35 (D : Nat) (a : List MV) (i : List Obj) : F_35 D (ev E LL D) a i = ev E LL (D + 1) 35 a i := by
  unfold F_35
  split
  · exact g_35 D _
  · rfl
noncomputable def F_47 (D : Nat) (rec : Run) (a : List MV) (i : List Obj) : Option Res := match a, i with
  | [.agg [.sl r1, .sl r2, .sl r3, .sl r4, .sl r5, .sl r6, .sl r7, .sl r8, .sl r9, .sl r10]], [] => G_47 rec r1 r2 r3 r4 r5 r6 r7 r8 r9 r10
  | a, i => ev E LL (D + 1) 47 a i
theorem f_47 (D : Nat) (a : List MV) (i : List Obj) : F_47 D (ev E LL D) a i = ev E LL (D + 1) 47 a i := by
  unfold F_47
  split
  · exact g_47 D _ _ _ _ _ _ _ _ _ _
  · rfl
noncomputable def F_48 (D : Nat) (rec : Run) (a : List MV) (i : List Obj) : Option Res := match a, i with
  | [.ptr (.imp 0) 0, .agg [.int .i64 n11, .int .i64 n12, .int .i64 n13, .int .i64 n14, .int .i64 n15, .str s16]], [.cells [.own r1, .ownK r2, .own r3, .own r4, .own r5, .own r6, .own r7, .own r8, .own r9, .own r10]] => G_48 rec r1 r2 r3 r4 r5 r6 r7 r8 r9 r10 n11 n12 n13 n14 n15 s16
  | a, i => ev E LL (D + 1) 48 a i
theorem f_48 (D : Nat) (a : List MV) (i : List Obj) : F_48 D (ev E LL D) a i = ev E LL (D + 1) 48 a i := by
  unfold F_48
  split
  · exact g_48 D _ _ _ _ _ _ _ _ _ _ _ _ _ _ _ _
  · rfl
noncomputable def F_49 (D : Nat) (rec : Run) (a : List MV) (i : List Obj) : Option Res := match a, i with
  | [.sl r1, .sl r2], [] => G_49 rec r1 r2
  | a, i => ev E LL (D + 1) 49 a i
theorem f_49 (D : Nat) (a : List MV) (i : List Obj) : F_49 D (ev E LL D) a i = ev E LL (D + 1) 49 a i := by
  unfold F_49
  split
  · exact g_49 D _ _
  · rfl
noncomputable def F_50 (D : Nat) (rec : Run) (a : List MV) (i : List Obj) : Option Res := match a, i with
  | [.sl r1], [] => G_50 rec r1
  | a, i => ev E LL (D + 1) 50 a i
theorem f_50 (D : Nat) (a : List MV) (i : List Obj) : F_50 D (ev E LL D) a i = ev E LL (D + 1) 50 a i := by
  unfold F_50
  split
  · exact g_50 D _
  · rfl
noncomputable def F_51 (D : Nat) (rec : Run) (a : List MV) (i : List Obj) : Option Res := match a, i with
  | [.sl r1, .sl r2], [] => G_51 rec r1 r2
  | a, i => ev E LL (D + 1) 51 a i
theorem f_51 (D : Nat) (a : List MV) (i : List Obj) : F_51 D (ev E LL D) a i = ev E LL (D + 1) 51 a i := by
  unfold F_51
  split
  · exact g_51 D _ _
  · rfl
noncomputable def F_52 (D : Nat) (rec : Run) (a : List MV) (i : List Obj) : Option Res := match a, i with
  | [.mapr (.imp 0), .str s2], [.map es1] => G_52 rec es1 s2
  | a, i => ev E LL (D + 1) 52 a i
theorem f_52 (D : Nat) (a : List MV) (i : List Obj) : F_52 D (ev E LL D) a i = ev E LL (D + 1) 52 a i := by
  unfold F_52
  split
  · exact g_52 D _ _
  · rfl
noncomputable def F_56 (D : Nat) (rec : Run) (a : List MV) (i : List Obj) : Option Res := match a, i with
  | [.str s1], [] => G_56 rec s1
  | a, i => ev E LL (D + 1) 56 a i
theorem f_56 (D : Nat) (a : List MV) (i : List Obj) : F_56 D (ev E LL D) a i = ev E LL (D + 1) 56 a i := by
  unfold F_56
  split
  · exact g_56 D _
  · rfl
noncomputable def F_57 (D : Nat) (rec : Run) (a : List MV) (i : List Obj) : Option Res := match a, i with
  | [], [] => G_57 rec 
  | a, i => ev E LL (D + 1) 57 a i
theorem f_57 (D : Nat) (a : List MV) (i : List Obj) : F_57 D (ev E LL D) a i = ev E LL (D + 1) 57 a i := by
  unfold F_57
  split
  · exact g_57 D
  · rfl
noncomputable def F_58 (D : Nat) (rec : Run) (a : List MV) (i : List Obj) : Option Res := match a, i with
  | [.agg [.sl r1], .int .i64 n2, .str s3], [] => G_58 rec r1 n2 s3
  | a, i => ev E LL (D + 1) 58 a i
theorem f_58 (D : Nat) (a : List MV) (i : List Obj) : F_58 D (ev E LL D) a i = ev E LL (D + 1) 58 a i := by
  unfold F_58
  split
  · exact g_58 D _ _ _
  · rfl
noncomputable def F_59 (D : Nat) (rec : Run) (a : List MV) (i : List Obj) : Option Res := match a, i with
  | [.sl r1, .str s2], [] => G_59 rec r1 s2
  | a, i => ev E LL (D + 1) 59 a i
theorem f_59 (D : Nat) (a : List MV) (i : List Obj) : F_59 D (ev E LL D) a i = ev E LL (D + 1) 59 a i := by
  unfold F_59
  split
  · exact g_59 D _ _
  · rfl
noncomputable def F_60 (D : Nat) (rec : Run) (a : List MV) (i : List Obj) : Option Res := match a, i with
  | [.int .i64 n1], [] => G_60 rec n1
  | a, i => ev E LL (D + 1) 60 a i
theorem f_60 (D : Nat) (a : List MV) (i : List Obj) : F_60 D (ev E LL D) a i = ev E LL (D + 1) 60 a i := by
  unfold F_60
  split
  · exact g_60 D _
  · rfl
noncomputable def F_61 (D : Nat) (rec : Run) (a : List MV) (i : List Obj) : Option Res := match a, i with
  | [.int .i64 n1], [] => G_61 rec n1
  | a, i => ev E LL (D + 1) 61 a i
theorem f_61 (D : Nat) (a : List MV) (i : List Obj) : F_61 D (ev E LL D) a i = ev E LL (D + 1) 61 a i := by
  unfold F_61
  split
  · exact g_61 D _
  · rfl
noncomputable def F_63 (D : Nat) (rec : Run) (a : List MV) (i : List Obj) : Option Res := match a, i with
  | [.agg [.sl r1]], [] => G_63 rec r1
  | a, i => ev E LL (D + 1) 63 a i
theorem f_63 (D : Nat) (a : List MV) (i : List Obj) : F_63 D (ev E LL D) a i = ev E LL (D + 1) 63 a i := by
  unfold F_63
  split
  · exact g_63 D _
  · rfl
noncomputable def F_64 (D : Nat) (rec : Run) (a : List MV) (i : List Obj) : Option Res := match a, i with
  | [.agg [.sl r1], .int .i64 n2], [] => G_64 rec r1 n2
  | a, i => ev E LL (D + 1) 64 a i
theorem f_64 (D : Nat) (a : List MV) (i : List Obj) : F_64 D (ev E LL D) a i = ev E LL (D + 1) 64 a i := by
  unfold F_64
  split
  · exact g_64 D _ _
  · rfl
noncomputable def F_65 (D : Nat) (rec : Run) (a : List MV) (i : List Obj) : Option Res := match a, i with
  | [.sl r1, .int .i64 n2], [] => G_65 rec r1 n2
  | a, i => ev E LL (D + 1) 65 a i
theorem f_65 (D : Nat) (a : List MV) (i : List Obj) : F_65 D (ev E LL D) a i = ev E LL (D + 1) 65 a i := by
  unfold F_65
  split
  · exact g_65 D _ _
  · rfl
noncomputable def F_66 (D : Nat) (rec : Run) (a : List MV) (i : List Obj) : Option Res := match a, i with
  | [.str s1], [] => G_66 rec s1
  | a, i => ev E LL (D + 1) 66 a i
theorem f_66 (D : Nat) (a : List MV) (i : List Obj) : F_66 D (ev E LL D) a i = ev E LL (D + 1) 66 a i := by
  unfold F_66
  split
  · exact g_66 D _
  · rfl
noncomputable def F_67 (D : Nat) (rec : Run) (a : List MV) (i : List Obj) : Option Res := if fnOf a = 24 then (match a, i with
  | [.sl r1, .fn 24 []], [] => G_67024 rec r1
  | a, i => ev E LL (D + 1) 67 a i) else if fnOf a = 26 then (match a, i with
  | [.sl r1, .fn 26 []], [] => G_67026 rec r1
  | a, i => ev E LL (D + 1) 67 a i) else ev E LL (D + 1) 67 a i
theorem f_67 (D : Nat) (a : List MV) (i : List Obj) : F_67 D (ev E LL D) a i = ev E LL (D + 1) 67 a i := by
  unfold F_67
  split
  · split
    · exact g_67024 D _
    · rfl
  split
  · split
    · exact g_67026 D _
    · rfl
  rfl
noncomputable def F_68 (D : Nat) (rec : Run) (a : List MV) (i : List Obj) : Option Res := match a, i with
  | [.sl r1, .fn 28 []], [] => G_68028 rec r1
  | a, i => ev E LL (D + 1) 68 a i
theorem f_68 (D : Nat) (a : List MV) (i : List Obj) : F_68 D (ev E LL D) a i = ev E LL (D + 1) 68 a i := by
  unfold F_68
  split
  · exact g_68028 D _
  · rfl
noncomputable def F_71 (D : Nat) (rec : Run) (a : List MV) (i : List Obj) : Option Res := match a, i with
  | [.sl r1, .fn 31 []], [] => G_71031 rec r1
  | a, i => ev E LL (D + 1) 71 a i
theorem f_71 (D : Nat) (a : List MV) (i : List Obj) : F_71 D (ev E LL D) a i = ev E LL (D + 1) 71 a i := by
  unfold F_71
  split
  · exact g_71031 D _
  · rfl
noncomputable def F_72 (D : Nat) (rec : Run) (a : List MV) (i : List Obj) : Option Res := match a, i with
  | [.str s1], [] => G_72 rec s1
  | a, i => ev E LL (D + 1) 72 a i
theorem f_72 (D : Nat) (a : List MV) (i : List Obj) : F_72 D (ev E LL D) a i = ev E LL (D + 1) 72 a i := by
  unfold F_72
  split
  · exact g_72 D _
  · rfl
noncomputable def F_73 (D : Nat) (rec : Run) (a : List MV) (i : List Obj) : Option Res := match a, i with
  | [.int .i64 n1, .int .i64 n2], [] => G_73 rec n1 n2
  | a, i => ev E LL (D + 1) 73 a i
theorem f_73 (D : Nat) (a : List MV) (i : List Obj) : F_73 D (ev E LL D) a i = ev E LL (D + 1) 73 a i := by
  unfold F_73
  split
  · exact g_73 D _ _
  · rfl
noncomputable def F_74 (D : Nat) (rec : Run) (a : List MV) (i : List Obj) : Option Res := match a, i with
  | [.int .i64 n1, .str s2, .str s3], [] => G_74 rec n1 s2 s3
  | a, i => ev E LL (D + 1) 74 a i
theorem f_74 (D : Nat) (a : List MV) (i : List Obj) : F_74 D (ev E LL D) a i = ev E LL (D + 1) 74 a i := by
  unfold F_74
  split
  · exact g_74 D _ _ _
  · rfl
noncomputable def F_76 (D : Nat) (rec : Run) (a : List MV) (i : List Obj) : Option Res := match a, i with
  | [.sl r1, .fn 115 []], [] => G_76115 rec r1
  | a, i => ev E LL (D + 1) 76 a i
theorem f_76 (D : Nat) (a : List MV) (i : List Obj) : F_76 D (ev E LL D) a i = ev E LL (D + 1) 76 a i := by
  unfold F_76
  split
  · exact g_76115 D _
  · rfl
noncomputable def F_93 (D : Nat) (rec : Run) (a : List MV) (i : List Obj) : Option Res := match a, i with
  | [.agg [.bool b1, .int .i64 n2, .sl r3, .sl r4, .int .i64 n5, .str s6, .str s7]], [] => G_93 rec b1 n2 r3 r4 n5 s6 s7
  | a, i => ev E LL (D + 1) 93 a i
theorem f_93 (D : Nat) (a : List MV) (i : List Obj) : F_93 D (ev E LL D) a i = ev E LL (D + 1) 93 a i := by
  unfold F_93
  split
  · exact g_93 D _ _ _ _ _ _ _
  · rfl
noncomputable def F_94 (D : Nat) (rec : Run) (a : List MV) (i : List Obj) : Option Res := match a, i with
  | [.sl r1], [] => G_94 rec r1
  | a, i => ev E LL (D + 1) 94 a i
theorem f_94 (D : Nat) (a : List MV) (i : List Obj) : F_94 D (ev E LL D) a i = ev E LL (D + 1) 94 a i := by
  unfold F_94
  split
  · exact g_94 D _
  · rfl
noncomputable def F_95 (D : Nat) (rec : Run) (a : List MV) (i : List Obj) : Option Res := match a, i with
  | [.ptr (.imp 0) 0, .agg [.int .i64 n11, .int .i64 n12, .int .i64 n13, .int .i64 n14, .int .i64 n15, .str s16]], [.cells [.own r1, .ownK r2, .own r3, .own r4, .own r5, .own r6, .own r7, .own r8, .own r9, .own r10]] => G_95 rec r1 r2 r3 r4 r5 r6 r7 r8 r9 r10 n11 n12 n13 n14 n15 s16
  | a, i => ev E LL (D + 1) 95 a i
theorem f_95 (D : Nat) (a : List MV) (i : List Obj) : F_95 D (ev E LL D) a i = ev E LL (D + 1) 95 a i := by
  unfold F_95
  split
  · exact g_95 D _ _ _ _ _ _ _ _ _ _ _ _ _ _ _ _
  · rfl
noncomputable def F_104 (D : Nat) (rec : Run) (a : List MV) (i : List Obj) : Option Res := match a, i with
  | [.str s1, .str s2], [] => G_104 rec s1 s2
  | a, i => ev E LL (D + 1) 104 a i
theorem f_104 (D : Nat) (a : List MV) (i : List Obj) : F_104 D (ev E LL D) a i = ev E LL (D + 1) 104 a i := by
  unfold F_104
  split
  · exact g_104 D _ _
  · rfl
noncomputable def F_108 (D : Nat) (rec : Run) (a : List MV) (i : List Obj) : Option Res := match a, i with
  | [.sl r1, .fn 31 []], [] => G_108031 rec r1
  | a, i => ev E LL (D + 1) 108 a i
theorem f_108 (D : Nat) (a : List MV) (i : List Obj) : F_108 D (ev E LL D) a i = ev E LL (D + 1) 108 a i := by
  unfold F_108
  split
  · exact g_108031 D _
  · rfl
noncomputable def F_110 (D : Nat) (rec : Run) (a : List MV) (i : List Obj) : Option Res := match a, i with
  | [.agg [.sl r1]], [] => G_110 rec r1
  | a, i => ev E LL (D + 1) 110 a i
theorem f_110 (D : Nat) (a : List MV) (i : List Obj) : F_110 D (ev E LL D) a i = ev E LL (D + 1) 110 a i := by
  unfold F_110
  split
  · exact g_110 D _
  · rfl
noncomputable def F_111 (D : Nat) (rec : Run) (a : List MV) (i : List Obj) : Option Res := match a, i with
  | [.str s1, .int .i64 n2], [] => G_111 rec s1 n2
  | a, i => ev E LL (D + 1) 111 a i
theorem f_111 (D : Nat) (a : List MV) (i : List Obj) : F_111 D (ev E LL D) a i = ev E LL (D + 1) 111 a i := by
  unfold F_111
  split
  · exact g_111 D _ _
  · rfl
noncomputable def F_112 (D : Nat) (rec : Run) (a : List MV) (i : List Obj) : Option Res := match a, i with
  | [.int .i64 n1], [] => G_112 rec n1
  | a, i => ev E LL (D + 1) 112 a i
theorem f_112 (D : Nat) (a : List MV) (i : List Obj) : F_112 D (ev E LL D) a i = ev E LL (D + 1) 112 a i := by
  unfold F_112
  split
  · exact g_112 D _
  · rfl
noncomputable def F_113 (D : Nat) (rec : Run) (a : List MV) (i : List Obj) : Option Res := match a, i with
  | [.int .i64 n1], [] => G_113 rec n1
  | a, i => ev E LL (D + 1) 113 a i
theorem f_113 (D : Nat) (a : List MV) (i : List Obj) : F_113 D (ev E LL D) a i = ev E LL (D + 1) 113 a i := by
  unfold F_113
  split
  · exact g_113 D _
  · rfl
noncomputable def F_115 (D : Nat) (rec : Run) (a : List MV) (i : List Obj) : Option Res := match a, i with
  | [.str s1], [] => G_115 rec s1
  | a, i => ev E LL (D + 1) 115 a i
theorem f_115 (D : Nat) (a : List MV) (i : List Obj) : F_115 D (ev E LL D) a i = ev E LL (D + 1) 115 a i := by
  unfold F_115
  split
  · exact g_115 D _
  · rfl
noncomputable def F_116 (D : Nat) (rec : Run) (a : List MV) (i : List Obj) : Option Res := match a, i with
  | [.str s1], [] => G_116 rec s1
  | a, i => ev E LL (D + 1) 116 a i
theorem f_116 (D : Nat) (a : List MV) (i : List Obj) : F_116 D (ev E LL D) a i = ev E LL (D + 1) 116 a i := by
  unfold F_116
  split
  · exact g_116 D _
  · rfl
noncomputable def F_117 (D : Nat) (rec : Run) (a : List MV) (i : List Obj) : Option Res := match a, i with
  | [.sl r1, .fn 118 [.ptr (.imp 0) 0]], [.cells [.int .i64 n2]] => G_117118 rec r1 n2
  | a, i => ev E LL (D + 1) 117 a i
theorem f_117 (D : Nat) (a : List MV) (i : List Obj) : F_117 D (ev E LL D) a i = ev E LL (D + 1) 117 a i := by
  unfold F_117
  split
  · exact g_117118 D _ _
  · rfl
noncomputable def F_118 (D : Nat) (rec : Run) (a : List MV) (i : List Obj) : Option Res := match a, i with
  | [.agg [.int .i64 n1, .str s2], .ptr (.imp 0) 0], [.cells [.int .i64 n3]] => G_118 rec n1 s2 n3
  | a, i => ev E LL (D + 1) 118 a i
theorem f_118 (D : Nat) (a : List MV) (i : List Obj) : F_118 D (ev E LL D) a i = ev E LL (D + 1) 118 a i := by
  unfold F_118
  split
  · exact g_118 D _ _ _
  · rfl
noncomputable def F_119 (D : Nat) (rec : Run) (a : List MV) (i : List Obj) : Option Res := match a, i with
  | [.str s1, .sl r2], [] => G_119 rec s1 r2
  | a, i => ev E LL (D + 1) 119 a i
theorem f_119 (D : Nat) (a : List MV) (i : List Obj) : F_119 D (ev E LL D) a i = ev E LL (D + 1) 119 a i := by
  unfold F_119
  split
  · exact g_119 D _ _
  · rfl
noncomputable def F_120 (D : Nat) (rec : Run) (a : List MV) (i : List Obj) : Option Res := if fnOf a = 24 then (match a, i with
  | [.sl r1, .fn 24 []], [] => G_120024 rec r1
  | a, i => ev E LL (D + 1) 120 a i) else if fnOf a = 26 then (match a, i with
  | [.sl r1, .fn 26 []], [] => G_120026 rec r1
  | a, i => ev E LL (D + 1) 120 a i) else ev E LL (D + 1) 120 a i
theorem f_120 (D : Nat) (a : List MV) (i : List Obj) : F_120 D (ev E LL D) a i = ev E LL (D + 1) 120 a i := by
  unfold F_120
  split
  · split
    · exact g_120024 D _
    · rfl
  split
  · split
    · exact g_120026 D _
    · rfl
  rfl
noncomputable def F_121 (D : Nat) (rec : Run) (a : List MV) (i : List Obj) : Option Res := match a, i with
  | [.sl r1, .fn 28 []], [] => G_121028 rec r1
  | a, i => ev E LL (D + 1) 121 a i
theorem f_121 (D : Nat) (a : List MV) (i : List Obj) : F_121 D (ev E LL D) a i = ev E LL (D + 1) 121 a i := by
  unfold F_121
  split
  · exact g_121028 D _
  · rfl
noncomputable def F_124 (D : Nat) (rec : Run) (a : List MV) (i : List Obj) : Option Res := match a, i with
  | [.str s1], [] => G_124 rec s1
  | a, i => ev E LL (D + 1) 124 a i
theorem f_124 (D : Nat) (a : List MV) (i : List Obj) : F_124 D (ev E LL D) a i = ev E LL (D + 1) 124 a i := by
  unfold F_124
  split
  · exact g_124 D _
  · rfl
noncomputable def F_126 (D : Nat) (rec : Run) (a : List MV) (i : List Obj) : Option Res := match a, i with
  | [.sl r1, .fn 115 []], [] => G_126115 rec r1
  | a, i => ev E LL (D + 1) 126 a i
theorem f_126 (D : Nat) (a : List MV) (i : List Obj) : F_126 D (ev E LL D) a i = ev E LL (D + 1) 126 a i := by
  unfold F_126
  split
  · exact g_126115 D _
  · rfl
noncomputable def F_148 (D : Nat) (rec : Run) (a : List MV) (i : List Obj) : Option Res := match a, i with
  | [.agg [.bool b1, .int .i64 n2, .sl r3, .sl r4, .int .i64 n5, .str s6, .str s7], .str s8, .int .i64 n9, .int .i64 n10, .str s11, .str s12], [] => G_148 rec b1 n2 r3 r4 n5 s6 s7 s8 n9 n10 s11 s12
  | a, i => ev E LL (D + 1) 148 a i
theorem f_148 (D : Nat) (a : List MV) (i : List Obj) : F_148 D (ev E LL D) a i = ev E LL (D + 1) 148 a i := by
  unfold F_148
  split
  · exact g_148 D _ _ _ _ _ _ _ _ _ _ _ _
  · rfl
noncomputable def F_158 (D : Nat) (rec : Run) (a : List MV) (i : List Obj) : Option Res := match a, i with
  | [.str s1, .str s2], [] => G_158 rec s1 s2
  | a, i => ev E LL (D + 1) 158 a i
theorem f_158 (D : Nat) (a : List MV) (i : List Obj) : F_158 D (ev E LL D) a i = ev E LL (D + 1) 158 a i := by
  unfold F_158
  split
  · exact g_158 D _ _
  · rfl
noncomputable def F_159 (D : Nat) (rec : Run) (a : List MV) (i : List Obj) : Option Res := match a, i with
  | [.str s1], [] => G_159 rec s1
  | a, i => ev E LL (D + 1) 159 a i
theorem f_159 (D : Nat) (a : List MV) (i : List Obj) : F_159 D (ev E LL D) a i = ev E LL (D + 1) 159 a i := by
  unfold F_159
  split
  · exact g_159 D _
  · rfl
noncomputable def F_164 (D : Nat) (rec : Run) (a : List MV) (i : List Obj) : Option Res := match a, i with
  | [.str s1, .str s2], [] => G_164 rec s1 s2
  | a, i => ev E LL (D + 1) 164 a i
theorem f_164 (D : Nat) (a : List MV) (i : List Obj) : F_164 D (ev E LL D) a i = ev E LL (D + 1) 164 a i := by
  unfold F_164
  split
  · exact g_164 D _ _
  · rfl
noncomputable def F_167 (D : Nat) (rec : Run) (a : List MV) (i : List Obj) : Option Res := match a, i with
  | [.int .i64 n1], [] => G_167 rec n1
  | a, i => ev E LL (D + 1) 167 a i
theorem f_167 (D : Nat) (a : List MV) (i : List Obj) : F_167 D (ev E LL D) a i = ev E LL (D + 1) 167 a i := by
  unfold F_167
  split
  · exact g_167 D _
  · rfl
noncomputable def F_170 (D : Nat) (rec : Run) (a : List MV) (i : List Obj) : Option Res := match a, i with
  | [.str s1], [] => G_170 rec s1
  | a, i => ev E LL (D + 1) 170 a i
theorem f_170 (D : Nat) (a : List MV) (i : List Obj) : F_170 D (ev E LL D) a i = ev E LL (D + 1) 170 a i := by
  unfold F_170
  split
  · exact g_170 D _
  · rfl
noncomputable def F_171 (D : Nat) (rec : Run) (a : List MV) (i : List Obj) : Option Res := match a, i with
  | [.str s1], [] => G_171 rec s1
  | a, i => ev E LL (D + 1) 171 a i
theorem f_171 (D : Nat) (a : List MV) (i : List Obj) : F_171 D (ev E LL D) a i = ev E LL (D + 1) 171 a i := by
  unfold F_171
  split
  · exact g_171 D _
  · rfl
noncomputable def F_176 (D : Nat) (rec : Run) (a : List MV) (i : List Obj) : Option Res := match a, i with
  | [.agg [.sl r1], .int .i64 n2, .int .i64 n3], [] => G_176 rec r1 n2 n3
  | a, i => ev E LL (D + 1) 176 a i
theorem f_176 (D : Nat) (a : List MV) (i : List Obj) : F_176 D (ev E LL D) a i = ev E LL (D + 1) 176 a i := by
  unfold F_176
  split
  · exact g_176 D _ _ _
  · rfl
noncomputable def F_177 (D : Nat) (rec : Run) (a : List MV) (i : List Obj) : Option Res := match a, i with
  | [.agg [.sl r1], .int .i64 n2, .int .i64 n3, .str s4], [] => G_177 rec r1 n2 n3 s4
  | a, i => ev E LL (D + 1) 177 a i
theorem f_177 (D : Nat) (a : List MV) (i : List Obj) : F_177 D (ev E LL D) a i = ev E LL (D + 1) 177 a i := by
  unfold F_177
  split
  · exact g_177 D _ _ _ _
  · rfl
noncomputable def F_178 (D : Nat) (rec : Run) (a : List MV) (i : List Obj) : Option Res := match a, i with
  | [.agg [.sl r1], .int .i64 n2], [] => G_178 rec r1 n2
  | a, i => ev E LL (D + 1) 178 a i
theorem f_178 (D : Nat) (a : List MV) (i : List Obj) : F_178 D (ev E LL D) a i = ev E LL (D + 1) 178 a i := by
  unfold F_178
  split
  · exact g_178 D _ _
  · rfl
noncomputable def F_179 (D : Nat) (rec : Run) (a : List MV) (i : List Obj) : Option Res := match a, i with
  | [.int .i64 n1], [] => G_179 rec n1
  | a, i => ev E LL (D + 1) 179 a i
theorem f_179 (D : Nat) (a : List MV) (i : List Obj) : F_179 D (ev E LL D) a i = ev E LL (D + 1) 179 a i := by
  unfold F_179
  split
  · exact g_179 D _
  · rfl
noncomputable def St (D : Nat) (rec : Run) (f : FuncId) (a : List MV) (i : List Obj) : Option Res := match E.ext f with | some q => (q a).map fun m => (m, i) | none => (bif Nat.blt f 65 then (bif Nat.blt f 29 then (bif Nat.blt f 20 then (bif Nat.blt f 10 then (bif Nat.blt f 8 then (bif Nat.blt f 7 then (if f = 3 then F_3 D rec a i else ev E LL (D + 1) f a i) else (if f = 7 then F_7 D rec a i else ev E LL (D + 1) f a i)) else (bif Nat.blt f 9 then (if f = 8 then F_8 D rec a i else ev E LL (D + 1) f a i) else (if f = 9 then F_9 D rec a i else ev E LL (D + 1) f a i))) else (bif Nat.blt f 16 then (bif Nat.blt f 11 then (if f = 10 then F_10 D rec a i else ev E LL (D + 1) f a i) else (if f = 11 then F_11 D rec a i else ev E LL (D + 1) f a i)) else (bif Nat.blt f 18 then (if f = 16 then F_16 D rec a i else ev E LL (D + 1) f a i) else (bif Nat.blt f 19 then (if f = 18 then F_18 D rec a i else ev E LL (D + 1) f a i) else (if f = 19 then F_19 D rec a i else ev E LL (D + 1) f a i))))) else (bif Nat.blt f 24 then (bif Nat.blt f 22 then (bif Nat.blt f 21 then (if f = 20 then F_20 D rec a i else ev E LL (D + 1) f a i) else (if f = 21 then F_21 D rec a i else ev E LL (D + 1) f a i)) else (bif Nat.blt f 23 then (if f = 22 then F_22 D rec a i else ev E LL (D + 1) f a i) else (if f = 23 then F_23 D rec a i else ev E LL (D + 1) f a i))) else (bif Nat.blt f 26 then (bif Nat.blt f 25 then (if f = 24 then F_24 D rec a i else ev E LL (D + 1) f a i) else (if f = 25 then F_25 D rec a i else ev E LL (D + 1) f a i)) else (bif Nat.blt f 27 then (if f = 26 then F_26 D rec a i else ev E LL (D + 1) f a i) else (bif Nat.blt f 28 then (if f = 27 then F_27 D rec a i else ev E LL (D + 1) f a i) else (if f = 28 then F_28 D rec a i else ev E LL (D + 1) f a i)))))) else (bif Nat.blt f 51 then (bif Nat.blt f 35 then (bif Nat.blt f 31 then (bif Nat.blt f 30 then (if f = 29 then F_29 D rec a i else ev E LL (D + 1) f a i) else (if f = 30 then F_30 D rec a i else ev E LL (D + 1) f a i)) else (bif Nat.blt f 32 then (if f = 31 then F_31 D rec a i else ev E LL (D + 1) f a i) else (if f = 32 then F_32 D rec a i else ev E LL (D + 1) f a i))) else (bif Nat.blt f 48 then (bif Nat.blt f 47 then (if f = 35 then F_35 D rec a i else ev E LL (D + 1) f a i) else (if f = 47 then F_47 D rec a i else ev E LL (D + 1) f a i)) else (bif Nat.blt f 49 then (if f = 48 then F_48 D rec a i else ev E LL (D + 1) f a i) else (bif Nat.blt f 50 then (if f = 49 then F_49 D rec a i else ev E LL (D + 1) f a i) else (if f = 50 then F_50 D rec a i else ev E LL (D + 1) f a i))))) else (bif Nat.blt f 59 then (bif Nat.blt f 56 then (bif Nat.blt f 52 then (if f = 51 then F_51 D rec a i else ev E LL (D + 1) f a i) else (if f = 52 then F_52 D rec a i else ev E LL (D + 1) f a i)) else (bif Nat.blt f 57 then (if f = 56 then F_56 D rec a i else ev E LL (D + 1) f a i) else (bif Nat.blt f 58 then (if f = 57 then F_57 D rec a i else ev E LL (D + 1) f a i) else (if f = 58 then F_58 D rec a i else ev E LL (D + 1) f a i)))) else (bif Nat.blt f 61 then (bif Nat.blt f 60 then (if f = 59 then F_59 D rec a i else ev E LL (D + 1) f a i) else (if f = 60 then F_60 D rec a i else ev E LL (D + 1) f a i)) else (bif Nat.blt f 63 then (if f = 61 then F_61 D rec a i else ev E LL (D + 1) f a i) else (bif Nat.blt f 64 then (if f = 63 then F_63 D rec a i else ev E LL (D + 1) f a i) else (if f = 64 then F_64 D rec a i else ev E LL (D + 1) f a i))))))) else (bif Nat.blt f 116 then (bif Nat.blt f 93 then (bif Nat.blt f 71 then (bif Nat.blt f 67 then (bif Nat.blt f 66 then (if f = 65 then F_65 D rec a i else ev E LL (D + 1) f a i) else (if f = 66 then F_66 D rec a i else ev E LL (D + 1) f a i)) else (bif Nat.blt f 68 then (if f = 67 then F_67 D rec a i else ev E LL (D + 1) f a i) else (if f = 68 then F_68 D rec a i else ev E LL (D + 1) f a i))) else (bif Nat.blt f 73 then (bif Nat.blt f 72 then (if f = 71 then F_71 D rec a i else ev E LL (D + 1) f a i) else (if f = 72 then F_72 D rec a i else ev E LL (D + 1) f a i)) else (bif Nat.blt f 74 then (if f = 73 then F_73 D rec a i else ev E LL (D + 1) f a i) else (bif Nat.blt f 76 then (if f = 74 then F_74 D rec a i else ev E LL (D + 1) f a i) else (if f = 76 then F_76 D rec a i else ev E LL (D + 1) f a i))))) else (bif Nat.blt f 110 then (bif Nat.blt f 95 then (bif Nat.blt f 94 then (if f = 93 then F_93 D rec a i else ev E LL (D + 1) f a i) else (if f = 94 then F_94 D rec a i else ev E LL (D + 1) f a i)) else (bif Nat.blt f 104 then (if f = 95 then F_95 D rec a i else ev E LL (D + 1) f a i) else (bif Nat.blt f 108 then (if f = 104 then F_104 D rec a i else ev E LL (D + 1) f a i) else (if f = 108 then F_108 D rec a i else ev E LL (D + 1) f a i)))) else (bif Nat.blt f 112 then (bif Nat.blt f 111 then (if f = 110 then F_110 D rec a i else ev E LL (D + 1) f a i) else (if f = 111 then F_111 D rec a i else ev E LL (D + 1) f a i)) else (bif Nat.blt f 113 then (if f = 112 then F_112 D rec a i else ev E LL (D + 1) f a i) else (bif Nat.blt f 115 then (if f = 113 then F_113 D rec a i else ev E LL (D + 1) f a i) else (if f = 115 then F_115 D rec a i else ev E LL (D + 1) f a i)))))) else (bif Nat.blt f 158 then (bif Nat.blt f 120 then (bif Nat.blt f 118 then (bif Nat.blt f 117 then (if f = 116 then F_116 D rec a i else ev E LL (D + 1) f a i) else (if f = 117 then F_117 D rec a i else ev E LL (D + 1) f a i)) else (bif Nat.blt f 119 then (if f = 118 then F_118 D rec a i else ev E LL (D + 1) f a i) else (if f = 119 then F_119 D rec a i else ev E LL (D + 1) f a i))) else (bif Nat.blt f 124 then (bif Nat.blt f 121 then (if f = 120 then F_120 D rec a i else ev E LL (D + 1) f a i) else (if f = 121 then F_121 D rec a i else ev E LL (D + 1) f a i)) else (bif Nat.blt f 126 then (if f = 124 then F_124 D rec a i else ev E LL (D + 1) f a i) else (bif Nat.blt f 148 then (if f = 126 then F_126 D rec a i else ev E LL (D + 1) f a i) else (if f = 148 then F_148 D rec a i else ev E LL (D + 1) f a i))))) else (bif Nat.blt f 171 then (bif Nat.blt f 164 then (bif Nat.blt f 159 then (if f = 158 then F_158 D rec a i else ev E LL (D + 1) f a i) else (if f = 159 then F_159 D rec a i else ev E LL (D + 1) f a i)) else (bif Nat.blt f 167 then (if f = 164 then F_164 D rec a i else ev E LL (D + 1) f a i) else (bif Nat.blt f 170 then (if f = 167 then F_167 D rec a i else ev E LL (D + 1) f a i) else (if f = 170 then F_170 D rec a i else ev E LL (D + 1) f a i)))) else (bif Nat.blt f 177 then (bif Nat.blt f 176 then (if f = 171 then F_171 D rec a i else ev E LL (D + 1) f a i) else (if f = 176 then F_176 D rec a i else ev E LL (D + 1) f a i)) else (bif Nat.blt f 178 then (if f = 177 then F_177 D rec a i else ev E LL (D + 1) f a i) else (bif Nat.blt f 179 then (if f = 178 then F_178 D rec a i else ev E LL (D + 1) f a i) else (if f = 179 then F_179 D rec a i else ev E LL (D + 1) f a i))))))))
noncomputable def FF (D : Nat) : Run := Nat.rec (motive := fun _ => Run) (fun _ _ _ => none) (fun D rec f a i => St D rec f a i) D
theorem cond_eq {α : Type} {b : Bool} {x y z : α} (h1 : x = z) (h2 : y = z) : (bif b then x else y) = z := by cases b; exact h2; exact h1
theorem leaf_eq {D : Nat} {k f : FuncId} {a : List MV} {i : List Obj} {x : Option Res} (h : x = ev E LL (D + 1) k a i) : (if f = k then x else ev E LL (D + 1) f a i) = ev E LL (D + 1) f a i := by
  split
  · rename_i e; subst e; exact h
  · rfl
theorem St_eq (D : Nat) (f : FuncId) (a : List MV) (i : List Obj) : St D (ev E LL D) f a i = ev E LL (D + 1) f a i := by
  unfold St
  cases h : E.ext f with
  | some q => unfold ev; simp only [h]
  | none => exact (cond_eq (cond_eq (cond_eq (cond_eq (cond_eq (cond_eq (leaf_eq (f_3 D a i)) (leaf_eq (f_7 D a i))) (cond_eq (leaf_eq (f_8 D a i)) (leaf_eq (f_9 D a i)))) (cond_eq (cond_eq (leaf_eq (f_10 D a i)) (leaf_eq (f_11 D a i))) (cond_eq (leaf_eq (f_16 D a i)) (cond_eq (leaf_eq (f_18 D a i)) (leaf_eq (f_19 D a i)))))) (cond_eq (cond_eq (cond_eq (leaf_eq (f_20 D a i)) (leaf_eq (f_21 D a i))) (cond_eq (leaf_eq (f_22 D a i)) (leaf_eq (f_23 D a i)))) (cond_eq (cond_eq (leaf_eq (f_24 D a i)) (leaf_eq (f_25 D a i))) (cond_eq (leaf_eq (f_26 D a i)) (cond_eq (leaf_eq (f_27 D a i)) (leaf_eq (f_28 D a i))))))) (cond_eq (cond_eq (cond_eq (cond_eq (leaf_eq (f_29 D a i)) (leaf_eq (f_30 D a i))) (cond_eq (leaf_eq (f_31 D a i)) (leaf_eq (f_32 D a i)))) (cond_eq (cond_eq (leaf_eq (f_35 D a i)) (leaf_eq (f_47 D a i))) (cond_eq (leaf_eq (f_48 D a i)) (cond_eq (leaf_eq (f_49 D a i)) (leaf_eq (f_50 D a i)))))) (cond_eq (cond_eq (cond_eq (leaf_eq (f_51 D a i)) (leaf_eq (f_52 D a i))) (cond_eq (leaf_eq (f_56 D a i)) (cond_eq (leaf_eq (f_57 D a i)) (leaf_eq (f_58 D a i))))) (cond_eq (cond_eq (leaf_eq (f_59 D a i)) (leaf_eq (f_60 D a i))) (cond_eq (leaf_eq (f_61 D a i)) (cond_eq (leaf_eq (f_63 D a i)) (leaf_eq (f_64 D a i)))))))) (cond_eq (cond_eq (cond_eq (cond_eq (cond_eq (leaf_eq (f_65 D a i)) (leaf_eq (f_66 D a i))) (cond_eq (leaf_eq (f_67 D a i)) (leaf_eq (f_68 D a i)))) (cond_eq (cond_eq (leaf_eq (f_71 D a i)) (leaf_eq (f_72 D a i))) (cond_eq (leaf_eq (f_73 D a i)) (cond_eq (leaf_eq (f_74 D a i)) (leaf_eq (f_76 D a i)))))) (cond_eq (cond_eq (cond_eq (leaf_eq (f_93 D a i)) (leaf_eq (f_94 D a i))) (cond_eq (leaf_eq (f_95 D a i)) (cond_eq (leaf_eq (f_104 D a i)) (leaf_eq (f_108 D a i))))) (cond_eq (cond_eq (leaf_eq (f_110 D a i)) (leaf_eq (f_111 D a i))) (cond_eq (leaf_eq (f_112 D a i)) (cond_eq (leaf_eq (f_113 D a i)) (leaf_eq (f_115 D a i))))))) (cond_eq (cond_eq (cond_eq (cond_eq (leaf_eq (f_116 D a i)) (leaf_eq (f_117 D a i))) (cond_eq (leaf_eq (f_118 D a i)) (leaf_eq (f_119 D a i)))) (cond_eq (cond_eq (leaf_eq (f_120 D a i)) (leaf_eq (f_121 D a i))) (cond_eq (leaf_eq (f_124 D a i)) (cond_eq (leaf_eq (f_126 D a i)) (leaf_eq (f_148 D a i)))))) (cond_eq (cond_eq (cond_eq (leaf_eq (f_158 D a i)) (leaf_eq (f_159 D a i))) (cond_eq (leaf_eq (f_164 D a i)) (cond_eq (leaf_eq (f_167 D a i)) (leaf_eq (f_170 D a i))))) (cond_eq (cond_eq (leaf_eq (f_171 D a i)) (leaf_eq (f_176 D a i))) (cond_eq (leaf_eq (f_177 D a i)) (cond_eq (leaf_eq (f_178 D a i)) (leaf_eq (f_179 D a i)))))))))
theorem FF_eq : ∀ D : Nat, FF D = ev E LL D
  | 0 => by funext f a i; unfold ev; rfl
  | D + 1 => by
    funext f a i
    show St D (FF D) f a i = _
    rw [FF_eq D]; exact St_eq D f a i
end Kw
