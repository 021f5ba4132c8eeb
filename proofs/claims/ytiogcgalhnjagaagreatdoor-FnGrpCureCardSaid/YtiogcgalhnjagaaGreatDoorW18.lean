import Derived.Test.YtiogcgalhnjagaaGreatDoorW17
namespace Kw
open Go Go.Proofs
set_option linter.unusedVariables false
set_option linter.unusedSimpArgs false
set_option maxRecDepth 100000
set_option maxHeartbeats 0
def P_97_3 (rec : Run) (n : Nat) : List Row → List Row → List Row → List Row → List Row → List Row → List Row → List Row → List Row → List Row → Int → Int → Int → Int → Int → Int → Int → Int → Int → Int → Int → Int → Int → Int → Int → ByteArray → Int → Int → Int → Option Res := Nat.rec (motive := fun _ => List Row → List Row → List Row → List Row → List Row → List Row → List Row → List Row → List Row → List Row → Int → Int → Int → Int → Int → Int → Int → Int → Int → Int → Int → Int → Int → Int → Int → ByteArray → Int → Int → Int → Option Res) (fun _ _ _ _ _ _ _ _ _ _ _ _ _ _ _ _ _ _ _ _ _ _ _ _ _ _ _ _ _ => none) (fun _ self => B_97_3 rec self) n
theorem p_97_3 (D : Nat) : ∀ (n : Nat) (r0 r1 r2 r3 r4 r5 r6 r7 r8 r9 : List Row) (i10 i11 i12 i13 i14 i15 i16 i17 i18 i19 i20 i21 i22 i23 i24 : Int) (s25 : ByteArray) (i26 i27 i28 : Int), P_97_3 (ev E LL D) n r0 r1 r2 r3 r4 r5 r6 r7 r8 r9 i10 i11 i12 i13 i14 i15 i16 i17 i18 i19 i20 i21 i22 i23 i24 s25 i26 i27 i28 = LP_97_3 LL D n  r0 r1 r2 r3 r4 r5 r6 r7 r8 r9 i10 i11 i12 i13 i14 i15 i16 i17 i18 i19 i20 i21 i22 i23 i24 s25 i26 i27 i28
  | 0, _, _, _, _, _, _, _, _, _, _, _, _, _, _, _, _, _, _, _, _, _, _, _, _, _, _, _, _, _ => by unfold LP_97_3 lp loopN; rfl
  | n + 1, r0, r1, r2, r3, r4, r5, r6, r7, r8, r9, i10, i11, i12, i13, i14, i15, i16, i17, i18, i19, i20, i21, i22, i23, i24, s25, i26, i27, i28 => by
    have ih : P_97_3 (ev E LL D) n = fun r0 r1 r2 r3 r4 r5 r6 r7 r8 r9 i10 i11 i12 i13 i14 i15 i16 i17 i18 i19 i20 i21 i22 i23 i24 s25 i26 i27 i28 => LP_97_3 LL D n  r0 r1 r2 r3 r4 r5 r6 r7 r8 r9 i10 i11 i12 i13 i14 i15 i16 i17 i18 i19 i20 i21 i22 i23 i24 s25 i26 i27 i28 := by funext r0 r1 r2 r3 r4 r5 r6 r7 r8 r9 i10 i11 i12 i13 i14 i15 i16 i17 i18 i19 i20 i21 i22 i23 i24 s25 i26 i27 i28; exact p_97_3 D n r0 r1 r2 r3 r4 r5 r6 r7 r8 r9 i10 i11 i12 i13 i14 i15 i16 i17 i18 i19 i20 i21 i22 i23 i24 s25 i26 i27 i28
    show B_97_3 (ev E LL D) (P_97_3 (ev E LL D) n) r0 r1 r2 r3 r4 r5 r6 r7 r8 r9 i10 i11 i12 i13 i14 i15 i16 i17 i18 i19 i20 i21 i22 i23 i24 s25 i26 i27 i28 = _
    rw [ih, LP_97_3_succ]
    unfold B_97_3
    rfl
def G_97 (rec : Run) (r1 r2 r3 r4 r5 r6 r7 r8 r9 r10 : List Row) (n11 n12 n13 n14 n15 : Int) (s16 : ByteArray) : Option Res := br (iEq (nrows r1) (nrows r1)) (bnd (rowZ 7 r1 n12) fun x => br (iEq (nrows r1) (nrows r1)) (br (iEq (nrows r1) (nrows r1)) (bnd (rowAt r1 n12) fun row => bnd (gBool (cellAt row 0)) fun b => br b (br (iEq (nrows r1) (nrows r1)) (br (iEq (nrows r2) (nrows r2)) (br (iEq (nrows r3) (nrows r3)) (br (iEq (nrows r4) (nrows r4)) (br (iEq (nrows r5) (nrows r5)) (br (iEq (nrows r6) (nrows r6)) (br (iEq (nrows r7) (nrows r7)) (br (iEq (nrows r8) (nrows r8)) (br (iEq (nrows r9) (nrows r9)) (br (iEq (nrows r10) (nrows r10)) (some (.tup [], [.cells (c_okoooooooo r1 r2 r3 r4 r5 r6 r7 r8 r9 r10)])) none) none) none) none) none) none) none) none) none) none) (br (iEq (nrows r2) (nrows r2)) (P_97_3 rec LL r1 r3 r4 r5 r6 r7 r8 r9 r10 r2 (nrows r1) (nrows r2) (nrows r3) (nrows r4) (nrows r5) (nrows r6) (nrows r7) (nrows r8) (nrows r9) (nrows r10) n11 n12 n13 n14 n15 s16 (nrows r2) (nrows r2) 0) none)) none) none) none
theorem g_97 (D : Nat) (r1 r2 r3 r4 r5 r6 r7 r8 r9 r10 : List Row) (n11 n12 n13 n14 n15 : Int) (s16 : ByteArray) : G_97 (ev E LL D) r1 r2 r3 r4 r5 r6 r7 r8 r9 r10 n11 n12 n13 n14 n15 s16 = ev E LL (D + 1) 97 [.ptr (.imp 0) 0, .agg [.int .i64 n11, .int .i64 n12, .int .i64 n13, .int .i64 n14, .int .i64 n15, .str s16]] [.cells [.own r1, .ownK r2, .own r3, .own r4, .own r5, .own r6, .own r7, .own r8, .own r9, .own r10]] := by
  rw [eq_97]
  unfold G_97
  simp only [p_97_3]
def G_100 (rec : Run) (s1 : ByteArray) : Option Res := bnd (rec 35 [.str s1] []) fun r => bnd (gBool r.1) fun b => some (.bool (bNot b), [])
theorem g_100 (D : Nat) (s1 : ByteArray) : G_100 (ev E LL D) s1 = ev E LL (D + 1) 100 [.str s1] [] := by
  rw [eq_100]
  unfold G_100
  rfl
def G_101102 (rec : Run) (r1 : List Row) : Option Res := bnd (rec 150 [.sl r1, .fn 102 []] []) fun r => bnd (gInt .i64 r.1) fun n => some (.bool (iLe 0 n), [])
theorem g_101102 (D : Nat) (r1 : List Row) : G_101102 (ev E LL D) r1 = ev E LL (D + 1) 101 [.sl r1, .fn 102 []] [] := by
  rw [eq_101102]
  unfold G_101102
  rfl
def G_102 (rec : Run) (s1 s2 : ByteArray) : Option Res := bnd (rec 35 [.str s1] []) fun r => bnd (gBool r.1) fun b => br (bNot (bNot b)) (bnd (rec 35 [.str s2] []) fun r => bnd (gBool r.1) fun b => some (.bool (bNot b), [])) (some (.bool true, []))
theorem g_102 (D : Nat) (s1 s2 : ByteArray) : G_102 (ev E LL D) s1 s2 = ev E LL (D + 1) 102 [.agg [.str s1, .str s2]] [] := by
  rw [eq_102]
  unfold G_102
  rfl
def G_103 (rec : Run) (s1 : ByteArray) (es2 : List (ByteArray × Bool)) (r3 : List Row) : Option Res := br (bNot (kGet es2 s1)) (br (iEq (nrows [[.str s1]]) (nrows [[.str s1]])) (br (bAnd (iEq (nrows r3) (nrows r3)) (bAnd (okR 1 r3) (bAnd (okR 1 [[.str s1]]) (fits (nrows r3) (nrows [[.str s1]]) 16)))) (br (iEq (nrows (catR r3 [[.str s1]])) (nrows (catR r3 [[.str s1]]))) (some (.tup [], [.cells [MV.mapr (.imp 2)], .cells [.own (catR r3 [[.str s1]])], Obj.map (mapSet es2 s1 true)])) none) none) none) (br (iEq (nrows r3) (nrows r3)) (some (.tup [], [.cells [MV.mapr (.imp 2)], .cells [.own r3], Obj.map es2])) none)
theorem g_103 (D : Nat) (s1 : ByteArray) (es2 : List (ByteArray × Bool)) (r3 : List Row) : G_103 (ev E LL D) s1 es2 r3 = ev E LL (D + 1) 103 [.str s1, .ptr (.imp 0) 0, .ptr (.imp 1) 0] [.cells [.mapr (.imp 2)], .cells [.own r3], .map es2] := by
  rw [eq_103]
  unfold G_103
  simp only [kGet_eq]
def G_104 (rec : Run) (s1 s2 : ByteArray) : Option Res := bnd (rec 164 (c_ss s1 s2) []) fun r => bnd (gBool r.1) fun b => some (.bool b, [])
theorem g_104 (D : Nat) (s1 s2 : ByteArray) : G_104 (ev E LL D) s1 s2 = ev E LL (D + 1) 104 [.str s1, .str s2] [] := by
  rw [eq_104]
  unfold G_104
  rfl
def G_105 (rec : Run) (s1 s2 : ByteArray) : Option Res := bnd (rec 165 (c_ss s1 s2) []) fun r => bnd (gTupN 2 r.1) fun vs => q0_sb vs fun s b => some (.tup (c_sb s b), [])
theorem g_105 (D : Nat) (s1 s2 : ByteArray) : G_105 (ev E LL D) s1 s2 = ev E LL (D + 1) 105 [.str s1, .str s2] [] := by
  rw [eq_105]
  unfold G_105
  rfl
def G_107 (rec : Run) (s1 : ByteArray) (r2 r3 r4 r5 r6 r7 r8 r9 r10 r11 : List Row) (n12 : Int) : Option Res := bnd (rec 108 [.sl r4, .fn 109 [.ptr (.imp 0) 0]] [.cells [.str s1]]) fun r => bnd (gCellsN 1 (hdO r.2)) fun ns => bnd (gStr (cellAt ns 0)) fun s => bnd (gInt .i64 r.1) fun n => br (iLe 0 n) (bnd (rowZ 13 r4 n) fun row => bnd (gInt .i64 (cellAt row 0)) fun n_1 => br (bNot (iEq n_1 n12)) (bnd (rowZ 13 r4 n) fun row => bnd (gInt .i64 (cellAt row 4)) fun n => some (.bool (iEq n n12), [.cells (c_llllllllll r2 r3 r4 r5 r6 r7 r8 r9 r10 r11), .cells [.int .i64 n12]])) (some (.bool true, [.cells (c_llllllllll r2 r3 r4 r5 r6 r7 r8 r9 r10 r11), .cells [.int .i64 n12]]))) (some (.bool false, [.cells (c_llllllllll r2 r3 r4 r5 r6 r7 r8 r9 r10 r11), .cells [.int .i64 n12]]))
theorem g_107 (D : Nat) (s1 : ByteArray) (r2 r3 r4 r5 r6 r7 r8 r9 r10 r11 : List Row) (n12 : Int) : G_107 (ev E LL D) s1 r2 r3 r4 r5 r6 r7 r8 r9 r10 r11 n12 = ev E LL (D + 1) 107 [.str s1, .ptr (.imp 0) 0, .ptr (.imp 1) 0] [.cells [.sl r2, .sl r3, .sl r4, .sl r5, .sl r6, .sl r7, .sl r8, .sl r9, .sl r10, .sl r11], .cells [.int .i64 n12]] := by
  rw [eq_107]
  unfold G_107
  rfl
def B_108031_2 (rec : Run) (self : List Row → Int → Int → Option Res) (r0 : List Row) (i1 i2 : Int) : Option Res := br (iLt i2 i1) (bnd (rowZ 13 r0 i2) fun row => q0_issiisllsssss row fun n_1 s s_1 n_2 n_3 s_2 r r_1 s_3 s_4 s_5 s_6 s_7 => bnd (rec 31 [.agg (c_issiisllsssss n_1 s s_1 n_2 n_3 s_2 r r_1 s_3 s_4 s_5 s_6 s_7)] []) fun r => bnd (gBool r.1) fun b => br b (some (.int .i64 i2, [])) (self r0 i1 (iAdd .i64 i2 1))) (some (.int .i64 (-1), []))
def P_108031_2 (rec : Run) (n : Nat) : List Row → Int → Int → Option Res := Nat.rec (motive := fun _ => List Row → Int → Int → Option Res) (fun _ _ _ => none) (fun _ self => B_108031_2 rec self) n
theorem p_108031_2 (D : Nat) : ∀ (n : Nat) (r0 : List Row) (i1 i2 : Int), P_108031_2 (ev E LL D) n r0 i1 i2 = LP_108031_2 LL D n  r0 i1 i2
  | 0, _, _, _ => by unfold LP_108031_2 lp loopN; rfl
  | n + 1, r0, i1, i2 => by
    have ih : P_108031_2 (ev E LL D) n = fun r0 i1 i2 => LP_108031_2 LL D n  r0 i1 i2 := by funext r0 i1 i2; exact p_108031_2 D n r0 i1 i2
    show B_108031_2 (ev E LL D) (P_108031_2 (ev E LL D) n) r0 i1 i2 = _
    rw [ih, LP_108031_2_succ]
    unfold B_108031_2
    rfl
def G_108031 (rec : Run) (r1 : List Row) : Option Res := P_108031_2 rec LL r1 (nrows r1) 0
theorem g_108031 (D : Nat) (r1 : List Row) : G_108031 (ev E LL D) r1 = ev E LL (D + 1) 108 [.sl r1, .fn 31 []] [] := by
  rw [eq_108031]
  unfold G_108031
  simp only [p_108031_2]
def B_108109_2 (rec : Run) (self : ByteArray → List Row → Int → Int → Option Res) (s0 : ByteArray) (r1 : List Row) (i2 i3 : Int) : Option Res := br (iLt i3 i2) (bnd (rowZ 13 r1 i3) fun row => q0_issiisllsssss row fun n_1 s s_1 n_2 n_3 s_2 r r_1 s_3 s_4 s_5 s_6 s_7 => bnd (rec 109 [.agg (c_issiisllsssss n_1 s s_1 n_2 n_3 s_2 r r_1 s_3 s_4 s_5 s_6 s_7), .ptr (.imp 0) 0] [.cells [.str s0]]) fun r => bnd (gCellsN 1 (hdO r.2)) fun ns => bnd (gStr (cellAt ns 0)) fun s => bnd (gBool r.1) fun b => br b (some (.int .i64 i3, [.cells [.str s]])) (self s r1 i2 (iAdd .i64 i3 1))) (some (.int .i64 (-1), [.cells [.str s0]]))
def P_108109_2 (rec : Run) (n : Nat) : ByteArray → List Row → Int → Int → Option Res := Nat.rec (motive := fun _ => ByteArray → List Row → Int → Int → Option Res) (fun _ _ _ _ => none) (fun _ self => B_108109_2 rec self) n
theorem p_108109_2 (D : Nat) : ∀ (n : Nat) (s0 : ByteArray) (r1 : List Row) (i2 i3 : Int), P_108109_2 (ev E LL D) n s0 r1 i2 i3 = LP_108109_2 LL D n  s0 r1 i2 i3
  | 0, _, _, _, _ => by unfold LP_108109_2 lp loopN; rfl
  | n + 1, s0, r1, i2, i3 => by
    have ih : P_108109_2 (ev E LL D) n = fun s0 r1 i2 i3 => LP_108109_2 LL D n  s0 r1 i2 i3 := by funext s0 r1 i2 i3; exact p_108109_2 D n s0 r1 i2 i3
    show B_108109_2 (ev E LL D) (P_108109_2 (ev E LL D) n) s0 r1 i2 i3 = _
    rw [ih, LP_108109_2_succ]
    unfold B_108109_2
    rfl
def G_108109 (rec : Run) (r1 : List Row) (s2 : ByteArray) : Option Res := P_108109_2 rec LL s2 r1 (nrows r1) 0
theorem g_108109 (D : Nat) (r1 : List Row) (s2 : ByteArray) : G_108109 (ev E LL D) r1 s2 = ev E LL (D + 1) 108 [.sl r1, .fn 109 [.ptr (.imp 0) 0]] [.cells [.str s2]] := by
  rw [eq_108109]
  unfold G_108109
  simp only [p_108109_2]
def G_109 (rec : Run) (n1 : Int) (s2 s3 : ByteArray) (n4 n5 : Int) (s6 : ByteArray) (r7 r8 : List Row) (s9 s10 s11 s12 s13 s14 : ByteArray) : Option Res := some (.bool (kEq s3 s14), [.cells [.str s14]])
theorem g_109 (D : Nat) (n1 : Int) (s2 s3 : ByteArray) (n4 n5 : Int) (s6 : ByteArray) (r7 r8 : List Row) (s9 s10 s11 s12 s13 s14 : ByteArray) : G_109 (ev E LL D) n1 s2 s3 n4 n5 s6 r7 r8 s9 s10 s11 s12 s13 s14 = ev E LL (D + 1) 109 [.agg [.int .i64 n1, .str s2, .str s3, .int .i64 n4, .int .i64 n5, .str s6, .sl r7, .sl r8, .str s9, .str s10, .str s11, .str s12, .str s13], .ptr (.imp 0) 0] [.cells [.str s14]] := by
  rw [eq_109]
  unfold G_109
  simp only [kEq_eq]
def G_110 (rec : Run) (r1 : List Row) : Option Res := bnd (rec 46 [.sl r1] []) fun r => bnd (gOwn r.1) fun r => br (iEq (nrows r) (nrows r)) (some (.agg [.own r], [])) none
theorem g_110 (D : Nat) (r1 : List Row) : G_110 (ev E LL D) r1 = ev E LL (D + 1) 110 [.agg [.sl r1]] [] := by
  rw [eq_110]
  unfold G_110
  rfl
def B_111_2 (rec : Run) (self : List Row → Int → Int → Option Res) (r0 : List Row) (i1 i2 : Int) : Option Res := br (iEq i2 (nrows r0)) (br (iLt (nrows r0) i1) (br (iEq i2 (nrows r0)) (br (iEq i2 (nrows r0)) (bnd (rowZ 1 r0 (iSub .i64 (nrows r0) 1)) fun x => br (iEq i2 (nrows r0)) (bnd (rowAt r0 (iSub .i64 (nrows r0) 1)) fun row => bnd (gStr (cellAt row 0)) fun s => bnd (rec 159 [.str s] []) fun r => bnd (gStr r.1) fun s => br (iEq (nrows [[.str s]]) (nrows [[.str s]])) (br (bAnd (iEq i2 (nrows r0)) (bAnd (okR 1 r0) (bAnd (okR 1 [[.str s]]) (fits (nrows r0) (nrows [[.str s]]) 16)))) (self (catR r0 [[.str s]]) i1 (nrows (catR r0 [[.str s]]))) none) none) none) none) none) (br (iEq i2 (nrows r0)) (some (.sl r0, [])) none)) none
def P_111_2 (rec : Run) (n : Nat) : List Row → Int → Int → Option Res := Nat.rec (motive := fun _ => List Row → Int → Int → Option Res) (fun _ _ _ => none) (fun _ self => B_111_2 rec self) n
theorem p_111_2 (D : Nat) : ∀ (n : Nat) (r0 : List Row) (i1 i2 : Int), P_111_2 (ev E LL D) n r0 i1 i2 = LP_111_2 LL D n  r0 i1 i2
  | 0, _, _, _ => by unfold LP_111_2 lp loopN; rfl
  | n + 1, r0, i1, i2 => by
    have ih : P_111_2 (ev E LL D) n = fun r0 i1 i2 => LP_111_2 LL D n  r0 i1 i2 := by funext r0 i1 i2; exact p_111_2 D n r0 i1 i2
    show B_111_2 (ev E LL D) (P_111_2 (ev E LL D) n) r0 i1 i2 = _
    rw [ih, LP_111_2_succ]
    unfold B_111_2
    rfl
def G_111 (rec : Run) (s1 : ByteArray) (n2 : Int) : Option Res := P_111_2 rec LL [[.str s1]] n2 (nrows [[.str s1]])
theorem g_111 (D : Nat) (s1 : ByteArray) (n2 : Int) : G_111 (ev E LL D) s1 n2 = ev E LL (D + 1) 111 [.str s1, .int .i64 n2] [] := by
  rw [eq_111]
  unfold G_111
  simp only [p_111_2]
def G_112 (rec : Run) (n1 : Int) : Option Res := some (.int .i64 (iAdd .i64 7 n1), [])
theorem g_112 (D : Nat) (n1 : Int) : G_112 (ev E LL D) n1 = ev E LL (D + 1) 112 [.int .i64 n1] [] := by
  rw [eq_112]
  unfold G_112
  rfl
def B_113_4 (rec : Run) (self : List Row → Int → Int → Option Res) (r0 : List Row) (i1 i2 : Int) : Option Res := br (iLt 0 i1) (br (iEq 2 0) none (br (iEq (nrows [[.int .i64 (iQuo .i64 (iSub .i64 i1 1) 2)]]) (nrows [[.int .i64 (iQuo .i64 (iSub .i64 i1 1) 2)]])) (br (bAnd (iEq i2 (nrows r0)) (bAnd (okR 1 r0) (bAnd (okR 1 [[.int .i64 (iQuo .i64 (iSub .i64 i1 1) 2)]]) (fits (nrows r0) (nrows [[.int .i64 (iQuo .i64 (iSub .i64 i1 1) 2)]]) 8)))) (self (catR r0 [[.int .i64 (iQuo .i64 (iSub .i64 i1 1) 2)]]) (iQuo .i64 (iSub .i64 i1 1) 2) (nrows (catR r0 [[.int .i64 (iQuo .i64 (iSub .i64 i1 1) 2)]]))) none) none)) (br (iEq i2 (nrows r0)) (bnd (rec 136 [.sl r0] []) fun r => bnd (gSl r.1) fun r => some (.sl r, [])) none)
def P_113_4 (rec : Run) (n : Nat) : List Row → Int → Int → Option Res := Nat.rec (motive := fun _ => List Row → Int → Int → Option Res) (fun _ _ _ => none) (fun _ self => B_113_4 rec self) n
theorem p_113_4 (D : Nat) : ∀ (n : Nat) (r0 : List Row) (i1 i2 : Int), P_113_4 (ev E LL D) n r0 i1 i2 = LP_113_4 LL D n  r0 i1 i2
  | 0, _, _, _ => by unfold LP_113_4 lp loopN; rfl
  | n + 1, r0, i1, i2 => by
    have ih : P_113_4 (ev E LL D) n = fun r0 i1 i2 => LP_113_4 LL D n  r0 i1 i2 := by funext r0 i1 i2; exact p_113_4 D n r0 i1 i2
    show B_113_4 (ev E LL D) (P_113_4 (ev E LL D) n) r0 i1 i2 = _
    rw [ih, LP_113_4_succ]
    unfold B_113_4
    rfl
def G_113 (rec : Run) (n1 : Int) : Option Res := bnd (rec 167 [.int .i64 n1] []) fun r => bnd (gBool r.1) fun b => br (bNot b) (some (.sl [], [])) (P_113_4 rec LL [] n1 (nrows []))
theorem g_113 (D : Nat) (n1 : Int) : G_113 (ev E LL D) n1 = ev E LL (D + 1) 113 [.int .i64 n1] [] := by
  rw [eq_113]
  unfold G_113
  simp only [p_113_4]
def G_115 (rec : Run) (s1 : ByteArray) : Option Res := br (bNot (kEq s1 (bs []))) (bnd (rec 116 [.str s1] []) fun r => bnd (gBool r.1) fun b => some (.bool (bNot b), [])) (some (.bool false, []))
theorem g_115 (D : Nat) (s1 : ByteArray) : G_115 (ev E LL D) s1 = ev E LL (D + 1) 115 [.str s1] [] := by
  rw [eq_115]
  unfold G_115
  simp only [kEq_eq]
def G_116 (rec : Run) (s1 : ByteArray) : Option Res := bnd (rec 72 [.str s1] []) fun r => bnd (gAggN 5 r.1) fun cs => q0_iiis cs fun n n_1 n_2 s => bnd (gStr (cellAt cs 4)) fun s => some (.bool (iEq n 3), [])
theorem g_116 (D : Nat) (s1 : ByteArray) : G_116 (ev E LL D) s1 = ev E LL (D + 1) 116 [.str s1] [] := by
  rw [eq_116]
  unfold G_116
  rfl
def B_117118_2 (rec : Run) (self : Int → List Row → Int → Int → Option Res) (i0 : Int) (r1 : List Row) (i2 i3 : Int) : Option Res := br (iLt i3 i2) (bnd (rowZ 2 r1 i3) fun row => q0_is row fun n_1 s => bnd (rec 118 [.agg (c_is n_1 s), .ptr (.imp 0) 0] [.cells [.int .i64 i0]]) fun r => bnd (gCellsN 1 (hdO r.2)) fun ns => bnd (gInt .i64 (cellAt ns 0)) fun n_2 => bnd (gBool r.1) fun b => br b (some (.int .i64 i3, [.cells [.int .i64 n_2]])) (self n_2 r1 i2 (iAdd .i64 i3 1))) (some (.int .i64 (-1), [.cells [.int .i64 i0]]))
def P_117118_2 (rec : Run) (n : Nat) : Int → List Row → Int → Int → Option Res := Nat.rec (motive := fun _ => Int → List Row → Int → Int → Option Res) (fun _ _ _ _ => none) (fun _ self => B_117118_2 rec self) n
theorem p_117118_2 (D : Nat) : ∀ (n : Nat) (i0 : Int) (r1 : List Row) (i2 i3 : Int), P_117118_2 (ev E LL D) n i0 r1 i2 i3 = LP_117118_2 LL D n  i0 r1 i2 i3
  | 0, _, _, _, _ => by unfold LP_117118_2 lp loopN; rfl
  | n + 1, i0, r1, i2, i3 => by
    have ih : P_117118_2 (ev E LL D) n = fun i0 r1 i2 i3 => LP_117118_2 LL D n  i0 r1 i2 i3 := by funext i0 r1 i2 i3; exact p_117118_2 D n i0 r1 i2 i3
    show B_117118_2 (ev E LL D) (P_117118_2 (ev E LL D) n) i0 r1 i2 i3 = _
    rw [ih, LP_117118_2_succ]
    unfold B_117118_2
    rfl
def G_117118 (rec : Run) (r1 : List Row) (n2 : Int) : Option Res := P_117118_2 rec LL n2 r1 (nrows r1) 0
theorem g_117118 (D : Nat) (r1 : List Row) (n2 : Int) : G_117118 (ev E LL D) r1 n2 = ev E LL (D + 1) 117 [.sl r1, .fn 118 [.ptr (.imp 0) 0]] [.cells [.int .i64 n2]] := by
  rw [eq_117118]
  unfold G_117118
  simp only [p_117118_2]
def B_117153_2 (rec : Run) (self : ByteArray → ByteArray → List Row → Int → Int → Option Res) (s0 s1 : ByteArray) (r2 : List Row) (i3 i4 : Int) : Option Res := br (iLt i4 i3) (bnd (rowZ 2 r2 i4) fun row => q0_is row fun n_1 s => bnd (rec 153 [.agg (c_is n_1 s), .ptr (.imp 0) 0] [.cells (c_ss s0 s1)]) fun r => bnd (gCellsN 2 (hdO r.2)) fun ns => q0_ss ns fun s s_1 => bnd (gBool r.1) fun b => br b (some (.int .i64 i4, [.cells (c_ss s s_1)])) (self s s_1 r2 i3 (iAdd .i64 i4 1))) (some (.int .i64 (-1), [.cells (c_ss s0 s1)]))
def P_117153_2 (rec : Run) (n : Nat) : ByteArray → ByteArray → List Row → Int → Int → Option Res := Nat.rec (motive := fun _ => ByteArray → ByteArray → List Row → Int → Int → Option Res) (fun _ _ _ _ _ => none) (fun _ self => B_117153_2 rec self) n
theorem p_117153_2 (D : Nat) : ∀ (n : Nat) (s0 s1 : ByteArray) (r2 : List Row) (i3 i4 : Int), P_117153_2 (ev E LL D) n s0 s1 r2 i3 i4 = LP_117153_2 LL D n  s0 s1 r2 i3 i4
  | 0, _, _, _, _, _ => by unfold LP_117153_2 lp loopN; rfl
  | n + 1, s0, s1, r2, i3, i4 => by
    have ih : P_117153_2 (ev E LL D) n = fun s0 s1 r2 i3 i4 => LP_117153_2 LL D n  s0 s1 r2 i3 i4 := by funext s0 s1 r2 i3 i4; exact p_117153_2 D n s0 s1 r2 i3 i4
    show B_117153_2 (ev E LL D) (P_117153_2 (ev E LL D) n) s0 s1 r2 i3 i4 = _
    rw [ih, LP_117153_2_succ]
    unfold B_117153_2
    rfl
def G_117153 (rec : Run) (r1 : List Row) (s2 s3 : ByteArray) : Option Res := P_117153_2 rec LL s2 s3 r1 (nrows r1) 0
theorem g_117153 (D : Nat) (r1 : List Row) (s2 s3 : ByteArray) : G_117153 (ev E LL D) r1 s2 s3 = ev E LL (D + 1) 117 [.sl r1, .fn 153 [.ptr (.imp 0) 0]] [.cells [.str s2, .str s3]] := by
  rw [eq_117153]
  unfold G_117153
  simp only [p_117153_2]
def B_117181_2 (rec : Run) (self : List Row → List Row → Int → Int → Option Res) (r0 r1 : List Row) (i2 i3 : Int) : Option Res := br (iLt i3 i2) (bnd (rowZ 2 r1 i3) fun row => q0_is row fun n_1 s => bnd (rec 181 [.agg (c_is n_1 s), .ptr (.imp 0) 0] [.cells [.sl r0]]) fun r => bnd (gCellsN 1 (hdO r.2)) fun ns => bnd (gSl (cellAt ns 0)) fun s => bnd (gBool r.1) fun b => br b (some (.int .i64 i3, [.cells [.sl s]])) (self s r1 i2 (iAdd .i64 i3 1))) (some (.int .i64 (-1), [.cells [.sl r0]]))
def P_117181_2 (rec : Run) (n : Nat) : List Row → List Row → Int → Int → Option Res := Nat.rec (motive := fun _ => List Row → List Row → Int → Int → Option Res) (fun _ _ _ _ => none) (fun _ self => B_117181_2 rec self) n
theorem p_117181_2 (D : Nat) : ∀ (n : Nat) (r0 r1 : List Row) (i2 i3 : Int), P_117181_2 (ev E LL D) n r0 r1 i2 i3 = LP_117181_2 LL D n  r0 r1 i2 i3
  | 0, _, _, _, _ => by unfold LP_117181_2 lp loopN; rfl
  | n + 1, r0, r1, i2, i3 => by
    have ih : P_117181_2 (ev E LL D) n = fun r0 r1 i2 i3 => LP_117181_2 LL D n  r0 r1 i2 i3 := by funext r0 r1 i2 i3; exact p_117181_2 D n r0 r1 i2 i3
    show B_117181_2 (ev E LL D) (P_117181_2 (ev E LL D) n) r0 r1 i2 i3 = _
    rw [ih, LP_117181_2_succ]
    unfold B_117181_2
    rfl
def G_117181 (rec : Run) (r1 r2 : List Row) : Option Res := P_117181_2 rec LL r2 r1 (nrows r1) 0
theorem g_117181 (D : Nat) (r1 r2 : List Row) : G_117181 (ev E LL D) r1 r2 = ev E LL (D + 1) 117 [.sl r1, .fn 181 [.ptr (.imp 0) 0]] [.cells [.sl r2]] := by
  rw [eq_117181]
  unfold G_117181
  simp only [p_117181_2]
def G_118 (rec : Run) (n1 : Int) (s2 : ByteArray) (n3 : Int) : Option Res := some (.bool (iEq n1 n3), [.cells [.int .i64 n3]])
theorem g_118 (D : Nat) (n1 : Int) (s2 : ByteArray) (n3 : Int) : G_118 (ev E LL D) n1 s2 n3 = ev E LL (D + 1) 118 [.agg [.int .i64 n1, .str s2], .ptr (.imp 0) 0] [.cells [.int .i64 n3]] := by
  rw [eq_118]
  unfold G_118
  rfl
def B_119_2 (rec : Run) (self : ByteArray → List Row → List Row → Int → Int → Option Res) (s0 : ByteArray) (r1 r2 : List Row) (i3 i4 : Int) : Option Res := br (iLt i4 i3) (bnd (rowZ 1 r2 i4) fun row => bnd (gStr (cellAt row 0)) fun s => bnd (rec 35 [.str s] []) fun r => bnd (gBool r.1) fun b => br (bNot b) (some (.str (bs []), [])) (self s0 r1 r2 i3 (iAdd .i64 i4 1))) (bnd (rec 169 (c_ls r1 (bs [])) []) fun r => bnd (gStr r.1) fun s => br (fits (sLen s0) (sLen s) 1) (br (iLe (sLen (kCat s0 s)) 300) (some (.str (kCat s0 s), [])) (some (.str (bs []), []))) none)
def P_119_2 (rec : Run) (n : Nat) : ByteArray → List Row → List Row → Int → Int → Option Res := Nat.rec (motive := fun _ => ByteArray → List Row → List Row → Int → Int → Option Res) (fun _ _ _ _ _ => none) (fun _ self => B_119_2 rec self) n
theorem p_119_2 (D : Nat) : ∀ (n : Nat) (s0 : ByteArray) (r1 r2 : List Row) (i3 i4 : Int), P_119_2 (ev E LL D) n s0 r1 r2 i3 i4 = LP_119_2 LL D n  s0 r1 r2 i3 i4
  | 0, _, _, _, _, _ => by unfold LP_119_2 lp loopN; rfl
  | n + 1, s0, r1, r2, i3, i4 => by
    have ih : P_119_2 (ev E LL D) n = fun s0 r1 r2 i3 i4 => LP_119_2 LL D n  s0 r1 r2 i3 i4 := by funext s0 r1 r2 i3 i4; exact p_119_2 D n s0 r1 r2 i3 i4
    show B_119_2 (ev E LL D) (P_119_2 (ev E LL D) n) s0 r1 r2 i3 i4 = _
    rw [ih, LP_119_2_succ]
    unfold B_119_2
    simp only [kCat_eq]
def G_119 (rec : Run) (s1 : ByteArray) (r2 : List Row) : Option Res := P_119_2 rec LL s1 r2 r2 (nrows r2) 0
theorem g_119 (D : Nat) (s1 : ByteArray) (r2 : List Row) : G_119 (ev E LL D) s1 r2 = ev E LL (D + 1) 119 [.str s1, .sl r2] [] := by
  rw [eq_119]
  unfold G_119
  simp only [p_119_2]
def B_120024_2 (rec : Run) (self : List Row → Int → Int → Option Res) (r0 : List Row) (i1 i2 : Int) : Option Res := br (iLt i2 i1) (bnd (rowZ 1 r0 i2) fun row => bnd (gInt .i64 (cellAt row 0)) fun n_1 => bnd (rec 24 [.int .i64 n_1] []) fun r => bnd (gBool r.1) fun b => br b (some (.int .i64 i2, [])) (self r0 i1 (iAdd .i64 i2 1))) (some (.int .i64 (-1), []))
def P_120024_2 (rec : Run) (n : Nat) : List Row → Int → Int → Option Res := Nat.rec (motive := fun _ => List Row → Int → Int → Option Res) (fun _ _ _ => none) (fun _ self => B_120024_2 rec self) n
theorem p_120024_2 (D : Nat) : ∀ (n : Nat) (r0 : List Row) (i1 i2 : Int), P_120024_2 (ev E LL D) n r0 i1 i2 = LP_120024_2 LL D n  r0 i1 i2
  | 0, _, _, _ => by unfold LP_120024_2 lp loopN; rfl
  | n + 1, r0, i1, i2 => by
    have ih : P_120024_2 (ev E LL D) n = fun r0 i1 i2 => LP_120024_2 LL D n  r0 i1 i2 := by funext r0 i1 i2; exact p_120024_2 D n r0 i1 i2
    show B_120024_2 (ev E LL D) (P_120024_2 (ev E LL D) n) r0 i1 i2 = _
    rw [ih, LP_120024_2_succ]
    unfold B_120024_2
    rfl
def G_120024 (rec : Run) (r1 : List Row) : Option Res := P_120024_2 rec LL r1 (nrows r1) 0
theorem g_120024 (D : Nat) (r1 : List Row) : G_120024 (ev E LL D) r1 = ev E LL (D + 1) 120 [.sl r1, .fn 24 []] [] := by
  rw [eq_120024]
  unfold G_120024
  simp only [p_120024_2]
def B_120026_2 (rec : Run) (self : List Row → Int → Int → Option Res) (r0 : List Row) (i1 i2 : Int) : Option Res := br (iLt i2 i1) (bnd (rowZ 1 r0 i2) fun row => bnd (gInt .i64 (cellAt row 0)) fun n_1 => bnd (rec 26 [.int .i64 n_1] []) fun r => bnd (gBool r.1) fun b => br b (some (.int .i64 i2, [])) (self r0 i1 (iAdd .i64 i2 1))) (some (.int .i64 (-1), []))
def P_120026_2 (rec : Run) (n : Nat) : List Row → Int → Int → Option Res := Nat.rec (motive := fun _ => List Row → Int → Int → Option Res) (fun _ _ _ => none) (fun _ self => B_120026_2 rec self) n
theorem p_120026_2 (D : Nat) : ∀ (n : Nat) (r0 : List Row) (i1 i2 : Int), P_120026_2 (ev E LL D) n r0 i1 i2 = LP_120026_2 LL D n  r0 i1 i2
  | 0, _, _, _ => by unfold LP_120026_2 lp loopN; rfl
  | n + 1, r0, i1, i2 => by
    have ih : P_120026_2 (ev E LL D) n = fun r0 i1 i2 => LP_120026_2 LL D n  r0 i1 i2 := by funext r0 i1 i2; exact p_120026_2 D n r0 i1 i2
    show B_120026_2 (ev E LL D) (P_120026_2 (ev E LL D) n) r0 i1 i2 = _
    rw [ih, LP_120026_2_succ]
    unfold B_120026_2
    rfl
def G_120026 (rec : Run) (r1 : List Row) : Option Res := P_120026_2 rec LL r1 (nrows r1) 0
theorem g_120026 (D : Nat) (r1 : List Row) : G_120026 (ev E LL D) r1 = ev E LL (D + 1) 120 [.sl r1, .fn 26 []] [] := by
  rw [eq_120026]
  unfold G_120026
  simp only [p_120026_2]
def B_120185_2 (rec : Run) (self : ByteArray → Int → List Row → List Row → Int → Int → Option Res) (s0 : ByteArray) (i1 : Int) (r2 r3 : List Row) (i4 i5 : Int) : Option Res := br (iLt i5 i4) (bnd (rowZ 1 r3 i5) fun row => bnd (gInt .i64 (cellAt row 0)) fun n_1 => bnd (rec 185 [.int .i64 n_1, .ptr (.imp 0) 0] [.cells (c_sil s0 i1 r2)]) fun r => bnd (gCellsN 3 (hdO r.2)) fun ns => q0_sil ns fun s n_2 s_1 => bnd (gBool r.1) fun b => br b (some (.int .i64 i5, [.cells (c_sil s n_2 s_1)])) (self s n_2 s_1 r3 i4 (iAdd .i64 i5 1))) (some (.int .i64 (-1), [.cells (c_sil s0 i1 r2)]))
def P_120185_2 (rec : Run) (n : Nat) : ByteArray → Int → List Row → List Row → Int → Int → Option Res := Nat.rec (motive := fun _ => ByteArray → Int → List Row → List Row → Int → Int → Option Res) (fun _ _ _ _ _ _ => none) (fun _ self => B_120185_2 rec self) n
theorem p_120185_2 (D : Nat) : ∀ (n : Nat) (s0 : ByteArray) (i1 : Int) (r2 r3 : List Row) (i4 i5 : Int), P_120185_2 (ev E LL D) n s0 i1 r2 r3 i4 i5 = LP_120185_2 LL D n  s0 i1 r2 r3 i4 i5
  | 0, _, _, _, _, _, _ => by unfold LP_120185_2 lp loopN; rfl
  | n + 1, s0, i1, r2, r3, i4, i5 => by
    have ih : P_120185_2 (ev E LL D) n = fun s0 i1 r2 r3 i4 i5 => LP_120185_2 LL D n  s0 i1 r2 r3 i4 i5 := by funext s0 i1 r2 r3 i4 i5; exact p_120185_2 D n s0 i1 r2 r3 i4 i5
    show B_120185_2 (ev E LL D) (P_120185_2 (ev E LL D) n) s0 i1 r2 r3 i4 i5 = _
    rw [ih, LP_120185_2_succ]
    unfold B_120185_2
    rfl
def G_120185 (rec : Run) (r1 : List Row) (s2 : ByteArray) (n3 : Int) (r4 : List Row) : Option Res := P_120185_2 rec LL s2 n3 r4 r1 (nrows r1) 0
theorem g_120185 (D : Nat) (r1 : List Row) (s2 : ByteArray) (n3 : Int) (r4 : List Row) : G_120185 (ev E LL D) r1 s2 n3 r4 = ev E LL (D + 1) 120 [.sl r1, .fn 185 [.ptr (.imp 0) 0]] [.cells [.str s2, .int .i64 n3, .sl r4]] := by
  rw [eq_120185]
  unfold G_120185
  simp only [p_120185_2]
def B_121028_2 (rec : Run) (self : List Row → Int → Int → Option Res) (r0 : List Row) (i1 i2 : Int) : Option Res := br (iLt i2 i1) (bnd (rowZ 1 r0 i2) fun row => bnd (gSl (cellAt row 0)) fun r => bnd (rec 28 [.sl r] []) fun r => bnd (gBool r.1) fun b => br b (some (.int .i64 i2, [])) (self r0 i1 (iAdd .i64 i2 1))) (some (.int .i64 (-1), []))
def P_121028_2 (rec : Run) (n : Nat) : List Row → Int → Int → Option Res := Nat.rec (motive := fun _ => List Row → Int → Int → Option Res) (fun _ _ _ => none) (fun _ self => B_121028_2 rec self) n
theorem p_121028_2 (D : Nat) : ∀ (n : Nat) (r0 : List Row) (i1 i2 : Int), P_121028_2 (ev E LL D) n r0 i1 i2 = LP_121028_2 LL D n  r0 i1 i2
  | 0, _, _, _ => by unfold LP_121028_2 lp loopN; rfl
  | n + 1, r0, i1, i2 => by
    have ih : P_121028_2 (ev E LL D) n = fun r0 i1 i2 => LP_121028_2 LL D n  r0 i1 i2 := by funext r0 i1 i2; exact p_121028_2 D n r0 i1 i2
    show B_121028_2 (ev E LL D) (P_121028_2 (ev E LL D) n) r0 i1 i2 = _
    rw [ih, LP_121028_2_succ]
    unfold B_121028_2
    rfl
def G_121028 (rec : Run) (r1 : List Row) : Option Res := P_121028_2 rec LL r1 (nrows r1) 0
theorem g_121028 (D : Nat) (r1 : List Row) : G_121028 (ev E LL D) r1 = ev E LL (D + 1) 121 [.sl r1, .fn 28 []] [] := by
  rw [eq_121028]
  unfold G_121028
  simp only [p_121028_2]
def G_124 (rec : Run) (s1 : ByteArray) : Option Res := br (kEq s1 (bs [])) (some (.tup [.agg (c_iiiss 0 0 0 (bs []) (bs [])), .str s1, .bool false], [])) (bnd (rec 170 [.str s1] []) fun r => bnd (gInt .i64 r.1) fun n => br (iLe 0 n) (br (bAnd (iLe 0 1) (bAnd (iLe 1 (sLen s1)) (iLe (sLen s1) (sLen s1)))) (bnd (rec 171 [.str (kSub s1 1 (sLen s1))] []) fun r => bnd (gTupN 2 r.1) fun vs => q0_is vs fun n_1 s => br (bNot (iEq n_1 0)) (bnd (rec 104 (c_ss s (bs [59])) []) fun r => bnd (gBool r.1) fun b => br (bNot b) (some (.tup [.agg (c_iiiss 0 0 0 (bs []) (bs [])), .str s1, .bool false], [])) (br (bAnd (iLe 0 1) (bAnd (iLe 1 (sLen s)) (iLe (sLen s) (sLen s)))) (some (.tup [.agg (c_iiiss 1 n n_1 (bs []) (bs [])), .str (kSub s 1 (sLen s)), .bool true], [])) none)) (some (.tup [.agg (c_iiiss 0 0 0 (bs []) (bs [])), .str s1, .bool false], []))) none) (br (bAnd (iLe 0 1) (bAnd (iLe 1 (sLen s1)) (iLe (sLen s1) (sLen s1)))) (bnd (sAt s1 0) fun b => br (iEq b 110) (bnd (rec 124 [.str (kSub s1 1 (sLen s1))] []) fun r => bnd (gTupN 3 r.1) fun vs => bnd (gAggN 5 (cellAt vs 0)) fun cs => bnd (gInt .i64 (cellAt cs 0)) fun n => bnd (gInt .i64 (cellAt cs 1)) fun n => q2_is cs fun n s => bnd (gStr (cellAt cs 4)) fun s => q1_sb vs fun s b => br (bAnd (iLe 0 0) (bAnd (iLe 0 (iSub .i64 (sLen (kSub s1 1 (sLen s1))) (sLen s))) (iLe (iSub .i64 (sLen (kSub s1 1 (sLen s1))) (sLen s)) (sLen (kSub s1 1 (sLen s1)))))) (br b (br (iEq 2 4) (bnd (rec 124 [.str s] []) fun r => bnd (gTupN 3 r.1) fun vs => bnd (gAggN 5 (cellAt vs 0)) fun cs => bnd (gInt .i64 (cellAt cs 0)) fun n => bnd (gInt .i64 (cellAt cs 1)) fun n => q2_iss cs fun n s_1 s_2 => q1_sb vs fun s_3 b => br (bAnd (iLe 0 0) (bAnd (iLe 0 (iSub .i64 (sLen s) (sLen s_3))) (iLe (iSub .i64 (sLen s) (sLen s_3)) (sLen s)))) (br (bNot b) (some (.tup [.agg (c_iiiss 0 0 0 (bs []) (bs [])), .str s1, .bool false], [])) (some (.tup [.agg (c_iiiss 2 0 0 (kSub (kSub s1 1 (sLen s1)) 0 (iSub .i64 (sLen (kSub s1 1 (sLen s1))) (sLen s))) (kSub s 0 (iSub .i64 (sLen s) (sLen s_3)))), .str s_3, .bool true], []))) none) (br (bNot b) (some (.tup [.agg (c_iiiss 0 0 0 (bs []) (bs [])), .str s1, .bool false], [])) (some (.tup [.agg (c_iiiss 2 0 0 (kSub (kSub s1 1 (sLen s1)) 0 (iSub .i64 (sLen (kSub s1 1 (sLen s1))) (sLen s))) (bs [])), .str s, .bool true], [])))) (br (bNot b) (some (.tup [.agg (c_iiiss 0 0 0 (bs []) (bs [])), .str s1, .bool false], [])) (some (.tup [.agg (c_iiiss 2 0 0 (kSub (kSub s1 1 (sLen s1)) 0 (iSub .i64 (sLen (kSub s1 1 (sLen s1))) (sLen s))) (bs [])), .str s, .bool true], [])))) none) (br (iEq b 107) (bnd (rec 124 [.str (kSub s1 1 (sLen s1))] []) fun r => bnd (gTupN 3 r.1) fun vs => bnd (gAggN 5 (cellAt vs 0)) fun cs => bnd (gInt .i64 (cellAt cs 0)) fun n => bnd (gInt .i64 (cellAt cs 1)) fun n => q2_is cs fun n s => bnd (gStr (cellAt cs 4)) fun s => q1_sb vs fun s b => br (bAnd (iLe 0 0) (bAnd (iLe 0 (iSub .i64 (sLen (kSub s1 1 (sLen s1))) (sLen s))) (iLe (iSub .i64 (sLen (kSub s1 1 (sLen s1))) (sLen s)) (sLen (kSub s1 1 (sLen s1)))))) (br b (br (iEq 3 4) (bnd (rec 124 [.str s] []) fun r => bnd (gTupN 3 r.1) fun vs => bnd (gAggN 5 (cellAt vs 0)) fun cs => bnd (gInt .i64 (cellAt cs 0)) fun n => bnd (gInt .i64 (cellAt cs 1)) fun n => q2_iss cs fun n s_1 s_2 => q1_sb vs fun s_3 b => br (bAnd (iLe 0 0) (bAnd (iLe 0 (iSub .i64 (sLen s) (sLen s_3))) (iLe (iSub .i64 (sLen s) (sLen s_3)) (sLen s)))) (br (bNot b) (some (.tup [.agg (c_iiiss 0 0 0 (bs []) (bs [])), .str s1, .bool false], [])) (some (.tup [.agg (c_iiiss 3 0 0 (kSub (kSub s1 1 (sLen s1)) 0 (iSub .i64 (sLen (kSub s1 1 (sLen s1))) (sLen s))) (kSub s 0 (iSub .i64 (sLen s) (sLen s_3)))), .str s_3, .bool true], []))) none) (br (bNot b) (some (.tup [.agg (c_iiiss 0 0 0 (bs []) (bs [])), .str s1, .bool false], [])) (some (.tup [.agg (c_iiiss 3 0 0 (kSub (kSub s1 1 (sLen s1)) 0 (iSub .i64 (sLen (kSub s1 1 (sLen s1))) (sLen s))) (bs [])), .str s, .bool true], [])))) (br (bNot b) (some (.tup [.agg (c_iiiss 0 0 0 (bs []) (bs [])), .str s1, .bool false], [])) (some (.tup [.agg (c_iiiss 3 0 0 (kSub (kSub s1 1 (sLen s1)) 0 (iSub .i64 (sLen (kSub s1 1 (sLen s1))) (sLen s))) (bs [])), .str s, .bool true], [])))) none) (br (iEq b 101) (bnd (rec 124 [.str (kSub s1 1 (sLen s1))] []) fun r => bnd (gTupN 3 r.1) fun vs => bnd (gAggN 5 (cellAt vs 0)) fun cs => bnd (gInt .i64 (cellAt cs 0)) fun n => bnd (gInt .i64 (cellAt cs 1)) fun n => q2_is cs fun n s => bnd (gStr (cellAt cs 4)) fun s => q1_sb vs fun s b => br (bAnd (iLe 0 0) (bAnd (iLe 0 (iSub .i64 (sLen (kSub s1 1 (sLen s1))) (sLen s))) (iLe (iSub .i64 (sLen (kSub s1 1 (sLen s1))) (sLen s)) (sLen (kSub s1 1 (sLen s1)))))) (br b (br (iEq 4 4) (bnd (rec 124 [.str s] []) fun r => bnd (gTupN 3 r.1) fun vs => bnd (gAggN 5 (cellAt vs 0)) fun cs => bnd (gInt .i64 (cellAt cs 0)) fun n => bnd (gInt .i64 (cellAt cs 1)) fun n => q2_iss cs fun n s_1 s_2 => q1_sb vs fun s_3 b => br (bAnd (iLe 0 0) (bAnd (iLe 0 (iSub .i64 (sLen s) (sLen s_3))) (iLe (iSub .i64 (sLen s) (sLen s_3)) (sLen s)))) (br (bNot b) (some (.tup [.agg (c_iiiss 0 0 0 (bs []) (bs [])), .str s1, .bool false], [])) (some (.tup [.agg (c_iiiss 4 0 0 (kSub (kSub s1 1 (sLen s1)) 0 (iSub .i64 (sLen (kSub s1 1 (sLen s1))) (sLen s))) (kSub s 0 (iSub .i64 (sLen s) (sLen s_3)))), .str s_3, .bool true], []))) none) (br (bNot b) (some (.tup [.agg (c_iiiss 0 0 0 (bs []) (bs [])), .str s1, .bool false], [])) (some (.tup [.agg (c_iiiss 4 0 0 (kSub (kSub s1 1 (sLen s1)) 0 (iSub .i64 (sLen (kSub s1 1 (sLen s1))) (sLen s))) (bs [])), .str s, .bool true], [])))) (br (bNot b) (some (.tup [.agg (c_iiiss 0 0 0 (bs []) (bs [])), .str s1, .bool false], [])) (some (.tup [.agg (c_iiiss 4 0 0 (kSub (kSub s1 1 (sLen s1)) 0 (iSub .i64 (sLen (kSub s1 1 (sLen s1))) (sLen s))) (bs [])), .str s, .bool true], [])))) none) (br (iEq b 109) (bnd (rec 170 [.str (kSub s1 1 (sLen s1))] []) fun r => bnd (gInt .i64 r.1) fun n => br (iLt n 0) (some (.tup [.agg (c_iiiss 0 0 0 (bs []) (bs [])), .str s1, .bool false], [])) (br (bAnd (iLe 0 1) (bAnd (iLe 1 (sLen (kSub s1 1 (sLen s1)))) (iLe (sLen (kSub s1 1 (sLen s1))) (sLen (kSub s1 1 (sLen s1)))))) (bnd (rec 124 [.str (kSub (kSub s1 1 (sLen s1)) 1 (sLen (kSub s1 1 (sLen s1))))] []) fun r => bnd (gTupN 3 r.1) fun vs => bnd (gAggN 5 (cellAt vs 0)) fun cs => q0_iiis cs fun n_1 n_2 n_3 s => bnd (gStr (cellAt cs 4)) fun s => q1_sb vs fun s b => br (bAnd (iLe 0 0) (bAnd (iLe 0 (iSub .i64 (sLen (kSub (kSub s1 1 (sLen s1)) 1 (sLen (kSub s1 1 (sLen s1))))) (sLen s))) (iLe (iSub .i64 (sLen (kSub (kSub s1 1 (sLen s1)) 1 (sLen (kSub s1 1 (sLen s1))))) (sLen s)) (sLen (kSub (kSub s1 1 (sLen s1)) 1 (sLen (kSub s1 1 (sLen s1)))))))) (br b (br (iEq 5 4) (bnd (rec 124 [.str s] []) fun r => bnd (gTupN 3 r.1) fun vs => bnd (gAggN 5 (cellAt vs 0)) fun cs => q0_iiiss cs fun n_4 n_5 n_6 s_1 s_2 => q1_sb vs fun s_3 b => br (bAnd (iLe 0 0) (bAnd (iLe 0 (iSub .i64 (sLen s) (sLen s_3))) (iLe (iSub .i64 (sLen s) (sLen s_3)) (sLen s)))) (br (bNot b) (some (.tup [.agg (c_iiiss 0 0 0 (bs []) (bs [])), .str s1, .bool false], [])) (some (.tup [.agg (c_iiiss 5 n 0 (kSub (kSub (kSub s1 1 (sLen s1)) 1 (sLen (kSub s1 1 (sLen s1)))) 0 (iSub .i64 (sLen (kSub (kSub s1 1 (sLen s1)) 1 (sLen (kSub s1 1 (sLen s1))))) (sLen s))) (kSub s 0 (iSub .i64 (sLen s) (sLen s_3)))), .str s_3, .bool true], []))) none) (br (bNot b) (some (.tup [.agg (c_iiiss 0 0 0 (bs []) (bs [])), .str s1, .bool false], [])) (some (.tup [.agg (c_iiiss 5 n 0 (kSub (kSub (kSub s1 1 (sLen s1)) 1 (sLen (kSub s1 1 (sLen s1)))) 0 (iSub .i64 (sLen (kSub (kSub s1 1 (sLen s1)) 1 (sLen (kSub s1 1 (sLen s1))))) (sLen s))) (bs [])), .str s, .bool true], [])))) (br (bNot b) (some (.tup [.agg (c_iiiss 0 0 0 (bs []) (bs [])), .str s1, .bool false], [])) (some (.tup [.agg (c_iiiss 5 n 0 (kSub (kSub (kSub s1 1 (sLen s1)) 1 (sLen (kSub s1 1 (sLen s1)))) 0 (iSub .i64 (sLen (kSub (kSub s1 1 (sLen s1)) 1 (sLen (kSub s1 1 (sLen s1))))) (sLen s))) (bs [])), .str s, .bool true], [])))) none) none)) (br (iEq b 114) (br (bNot (kEq (kSub s1 1 (sLen s1)) (bs []))) (bnd (sAt (kSub s1 1 (sLen s1)) 0) fun b => br (bNot (iLt b 49)) (bnd (sAt (kSub s1 1 (sLen s1)) 0) fun b => br (iLt 57 b) (some (.tup [.agg (c_iiiss 0 0 0 (bs []) (bs [])), .str s1, .bool false], [])) (bnd (sAt (kSub s1 1 (sLen s1)) 0) fun b => br (bAnd (iLe 0 1) (bAnd (iLe 1 (sLen (kSub s1 1 (sLen s1)))) (iLe (sLen (kSub s1 1 (sLen s1))) (sLen (kSub s1 1 (sLen s1)))))) (bnd (rec 124 [.str (kSub (kSub s1 1 (sLen s1)) 1 (sLen (kSub s1 1 (sLen s1))))] []) fun r => bnd (gTupN 3 r.1) fun vs => bnd (gAggN 5 (cellAt vs 0)) fun cs => bnd (gInt .i64 (cellAt cs 0)) fun n => bnd (gInt .i64 (cellAt cs 1)) fun n => q2_is cs fun n s => bnd (gStr (cellAt cs 4)) fun s => q1_sb vs fun s b_1 => br (bAnd (iLe 0 0) (bAnd (iLe 0 (iSub .i64 (sLen (kSub (kSub s1 1 (sLen s1)) 1 (sLen (kSub s1 1 (sLen s1))))) (sLen s))) (iLe (iSub .i64 (sLen (kSub (kSub s1 1 (sLen s1)) 1 (sLen (kSub s1 1 (sLen s1))))) (sLen s)) (sLen (kSub (kSub s1 1 (sLen s1)) 1 (sLen (kSub s1 1 (sLen s1)))))))) (br b_1 (br (iEq 6 4) (bnd (rec 124 [.str s] []) fun r => bnd (gTupN 3 r.1) fun vs => bnd (gAggN 5 (cellAt vs 0)) fun cs => bnd (gInt .i64 (cellAt cs 0)) fun n => bnd (gInt .i64 (cellAt cs 1)) fun n => q2_iss cs fun n s_1 s_2 => q1_sb vs fun s_3 b_2 => br (bAnd (iLe 0 0) (bAnd (iLe 0 (iSub .i64 (sLen s) (sLen s_3))) (iLe (iSub .i64 (sLen s) (sLen s_3)) (sLen s)))) (br (bNot b_2) (some (.tup [.agg (c_iiiss 0 0 0 (bs []) (bs [])), .str s1, .bool false], [])) (some (.tup [.agg (c_iiiss 6 0 (iWrap .i64 (iSub IntKind.u8 b 48)) (kSub (kSub (kSub s1 1 (sLen s1)) 1 (sLen (kSub s1 1 (sLen s1)))) 0 (iSub .i64 (sLen (kSub (kSub s1 1 (sLen s1)) 1 (sLen (kSub s1 1 (sLen s1))))) (sLen s))) (kSub s 0 (iSub .i64 (sLen s) (sLen s_3)))), .str s_3, .bool true], []))) none) (br (bNot b_1) (some (.tup [.agg (c_iiiss 0 0 0 (bs []) (bs [])), .str s1, .bool false], [])) (some (.tup [.agg (c_iiiss 6 0 (iWrap .i64 (iSub IntKind.u8 b 48)) (kSub (kSub (kSub s1 1 (sLen s1)) 1 (sLen (kSub s1 1 (sLen s1)))) 0 (iSub .i64 (sLen (kSub (kSub s1 1 (sLen s1)) 1 (sLen (kSub s1 1 (sLen s1))))) (sLen s))) (bs [])), .str s, .bool true], [])))) (br (bNot b_1) (some (.tup [.agg (c_iiiss 0 0 0 (bs []) (bs [])), .str s1, .bool false], [])) (some (.tup [.agg (c_iiiss 6 0 (iWrap .i64 (iSub IntKind.u8 b 48)) (kSub (kSub (kSub s1 1 (sLen s1)) 1 (sLen (kSub s1 1 (sLen s1)))) 0 (iSub .i64 (sLen (kSub (kSub s1 1 (sLen s1)) 1 (sLen (kSub s1 1 (sLen s1))))) (sLen s))) (bs [])), .str s, .bool true], [])))) none) none)) (some (.tup [.agg (c_iiiss 0 0 0 (bs []) (bs [])), .str s1, .bool false], []))) (some (.tup [.agg (c_iiiss 0 0 0 (bs []) (bs [])), .str s1, .bool false], []))) (some (.tup [.agg (c_iiiss 0 0 0 (bs []) (bs [])), .str s1, .bool false], []))))))) none))
theorem g_124 (D : Nat) (s1 : ByteArray) : G_124 (ev E LL D) s1 = ev E LL (D + 1) 124 [.str s1] [] := by
  rw [eq_124]
  unfold G_124
  simp only [kSub_eq, kEq_eq]
def B_125034_2 (rec : Run) (self : List Row → List Row → List Row → List Row → List Row → List Row → List Row → List Row → List Row → List Row → List Row → Int → Int → Option Res) (r0 r1 r2 r3 r4 r5 r6 r7 r8 r9 r10 : List Row) (i11 i12 : Int) : Option Res := br (iLt i12 i11) (bnd (rowZ 4 r10 i12) fun row => q0_iiss row fun n_1 n_2 s s_1 => bnd (rec 34 [.agg (c_iiss n_1 n_2 s s_1), .ptr (.imp 0) 0] [.cells (c_llllllllll r0 r1 r2 r3 r4 r5 r6 r7 r8 r9)]) fun r => bnd (gCellsN 10 (hdO r.2)) fun ns => q0_llllllllll ns fun s s_2 s_3 s_4 s_5 s_6 s_7 s_8 s_9 s_10 => bnd (gBool r.1) fun b => br b (some (.int .i64 i12, [.cells (c_llllllllll s s_2 s_3 s_4 s_5 s_6 s_7 s_8 s_9 s_10)])) (self s s_2 s_3 s_4 s_5 s_6 s_7 s_8 s_9 s_10 r10 i11 (iAdd .i64 i12 1))) (some (.int .i64 (-1), [.cells (c_llllllllll r0 r1 r2 r3 r4 r5 r6 r7 r8 r9)]))
def P_125034_2 (rec : Run) (n : Nat) : List Row → List Row → List Row → List Row → List Row → List Row → List Row → List Row → List Row → List Row → List Row → Int → Int → Option Res := Nat.rec (motive := fun _ => List Row → List Row → List Row → List Row → List Row → List Row → List Row → List Row → List Row → List Row → List Row → Int → Int → Option Res) (fun _ _ _ _ _ _ _ _ _ _ _ _ _ => none) (fun _ self => B_125034_2 rec self) n
theorem p_125034_2 (D : Nat) : ∀ (n : Nat) (r0 r1 r2 r3 r4 r5 r6 r7 r8 r9 r10 : List Row) (i11 i12 : Int), P_125034_2 (ev E LL D) n r0 r1 r2 r3 r4 r5 r6 r7 r8 r9 r10 i11 i12 = LP_125034_2 LL D n  r0 r1 r2 r3 r4 r5 r6 r7 r8 r9 r10 i11 i12
  | 0, _, _, _, _, _, _, _, _, _, _, _, _, _ => by unfold LP_125034_2 lp loopN; rfl
  | n + 1, r0, r1, r2, r3, r4, r5, r6, r7, r8, r9, r10, i11, i12 => by
    have ih : P_125034_2 (ev E LL D) n = fun r0 r1 r2 r3 r4 r5 r6 r7 r8 r9 r10 i11 i12 => LP_125034_2 LL D n  r0 r1 r2 r3 r4 r5 r6 r7 r8 r9 r10 i11 i12 := by funext r0 r1 r2 r3 r4 r5 r6 r7 r8 r9 r10 i11 i12; exact p_125034_2 D n r0 r1 r2 r3 r4 r5 r6 r7 r8 r9 r10 i11 i12
    show B_125034_2 (ev E LL D) (P_125034_2 (ev E LL D) n) r0 r1 r2 r3 r4 r5 r6 r7 r8 r9 r10 i11 i12 = _
    rw [ih, LP_125034_2_succ]
    unfold B_125034_2
    rfl
def G_125034 (rec : Run) (r1 r2 r3 r4 r5 r6 r7 r8 r9 r10 r11 : List Row) : Option Res := P_125034_2 rec LL r2 r3 r4 r5 r6 r7 r8 r9 r10 r11 r1 (nrows r1) 0
theorem g_125034 (D : Nat) (r1 r2 r3 r4 r5 r6 r7 r8 r9 r10 r11 : List Row) : G_125034 (ev E LL D) r1 r2 r3 r4 r5 r6 r7 r8 r9 r10 r11 = ev E LL (D + 1) 125 [.sl r1, .fn 34 [.ptr (.imp 0) 0]] [.cells [.sl r2, .sl r3, .sl r4, .sl r5, .sl r6, .sl r7, .sl r8, .sl r9, .sl r10, .sl r11]] := by
  rw [eq_125034]
  unfold G_125034
  simp only [p_125034_2]
def B_126037_2 (rec : Run) (self : List Row → Int → Int → Option Res) (r0 : List Row) (i1 i2 : Int) : Option Res := br (iLt i2 i1) (bnd (rowZ 1 r0 i2) fun row => bnd (gStr (cellAt row 0)) fun s => bnd (rec 37 [.str s] []) fun r => bnd (gBool r.1) fun b => br b (some (.int .i64 i2, [])) (self r0 i1 (iAdd .i64 i2 1))) (some (.int .i64 (-1), []))
def P_126037_2 (rec : Run) (n : Nat) : List Row → Int → Int → Option Res := Nat.rec (motive := fun _ => List Row → Int → Int → Option Res) (fun _ _ _ => none) (fun _ self => B_126037_2 rec self) n
theorem p_126037_2 (D : Nat) : ∀ (n : Nat) (r0 : List Row) (i1 i2 : Int), P_126037_2 (ev E LL D) n r0 i1 i2 = LP_126037_2 LL D n  r0 i1 i2
  | 0, _, _, _ => by unfold LP_126037_2 lp loopN; rfl
  | n + 1, r0, i1, i2 => by
    have ih : P_126037_2 (ev E LL D) n = fun r0 i1 i2 => LP_126037_2 LL D n  r0 i1 i2 := by funext r0 i1 i2; exact p_126037_2 D n r0 i1 i2
    show B_126037_2 (ev E LL D) (P_126037_2 (ev E LL D) n) r0 i1 i2 = _
    rw [ih, LP_126037_2_succ]
    unfold B_126037_2
    rfl
def G_126037 (rec : Run) (r1 : List Row) : Option Res := P_126037_2 rec LL r1 (nrows r1) 0
theorem g_126037 (D : Nat) (r1 : List Row) : G_126037 (ev E LL D) r1 = ev E LL (D + 1) 126 [.sl r1, .fn 37 []] [] := by
  rw [eq_126037]
  unfold G_126037
  simp only [p_126037_2]
def B_126100_2 (rec : Run) (self : List Row → Int → Int → Option Res) (r0 : List Row) (i1 i2 : Int) : Option Res := br (iLt i2 i1) (bnd (rowZ 1 r0 i2) fun row => bnd (gStr (cellAt row 0)) fun s => bnd (rec 100 [.str s] []) fun r => bnd (gBool r.1) fun b => br b (some (.int .i64 i2, [])) (self r0 i1 (iAdd .i64 i2 1))) (some (.int .i64 (-1), []))
def P_126100_2 (rec : Run) (n : Nat) : List Row → Int → Int → Option Res := Nat.rec (motive := fun _ => List Row → Int → Int → Option Res) (fun _ _ _ => none) (fun _ self => B_126100_2 rec self) n
theorem p_126100_2 (D : Nat) : ∀ (n : Nat) (r0 : List Row) (i1 i2 : Int), P_126100_2 (ev E LL D) n r0 i1 i2 = LP_126100_2 LL D n  r0 i1 i2
  | 0, _, _, _ => by unfold LP_126100_2 lp loopN; rfl
  | n + 1, r0, i1, i2 => by
    have ih : P_126100_2 (ev E LL D) n = fun r0 i1 i2 => LP_126100_2 LL D n  r0 i1 i2 := by funext r0 i1 i2; exact p_126100_2 D n r0 i1 i2
    show B_126100_2 (ev E LL D) (P_126100_2 (ev E LL D) n) r0 i1 i2 = _
    rw [ih, LP_126100_2_succ]
    unfold B_126100_2
    rfl
def G_126100 (rec : Run) (r1 : List Row) : Option Res := P_126100_2 rec LL r1 (nrows r1) 0
theorem g_126100 (D : Nat) (r1 : List Row) : G_126100 (ev E LL D) r1 = ev E LL (D + 1) 126 [.sl r1, .fn 100 []] [] := by
  rw [eq_126100]
  unfold G_126100
  simp only [p_126100_2]
def B_126107_2 (rec : Run) (self : List Row → List Row → List Row → List Row → List Row → List Row → List Row → List Row → List Row → List Row → Int → List Row → Int → Int → Option Res) (r0 r1 r2 r3 r4 r5 r6 r7 r8 r9 : List Row) (i10 : Int) (r11 : List Row) (i12 i13 : Int) : Option Res := br (iLt i13 i12) (bnd (rowZ 1 r11 i13) fun row => bnd (gStr (cellAt row 0)) fun s => bnd (rec 107 [.str s, .ptr (.imp 0) 0, .ptr (.imp 1) 0] [.cells (c_llllllllll r0 r1 r2 r3 r4 r5 r6 r7 r8 r9), .cells [.int .i64 i10]]) fun r => bnd (gCellsN 10 (hdO r.2)) fun ns => q0_llllllllll ns fun s s_1 s_2 s_3 s_4 s_5 s_6 s_7 s_8 s_9 => bnd (gCellsN 1 (hdO (tlO r.2))) fun ns => bnd (gInt .i64 (cellAt ns 0)) fun n_1 => bnd (gBool r.1) fun b => br b (some (.int .i64 i13, [.cells (c_llllllllll s s_1 s_2 s_3 s_4 s_5 s_6 s_7 s_8 s_9), .cells [.int .i64 n_1]])) (self s s_1 s_2 s_3 s_4 s_5 s_6 s_7 s_8 s_9 n_1 r11 i12 (iAdd .i64 i13 1))) (some (.int .i64 (-1), [.cells (c_llllllllll r0 r1 r2 r3 r4 r5 r6 r7 r8 r9), .cells [.int .i64 i10]]))
def P_126107_2 (rec : Run) (n : Nat) : List Row → List Row → List Row → List Row → List Row → List Row → List Row → List Row → List Row → List Row → Int → List Row → Int → Int → Option Res := Nat.rec (motive := fun _ => List Row → List Row → List Row → List Row → List Row → List Row → List Row → List Row → List Row → List Row → Int → List Row → Int → Int → Option Res) (fun _ _ _ _ _ _ _ _ _ _ _ _ _ _ => none) (fun _ self => B_126107_2 rec self) n
theorem p_126107_2 (D : Nat) : ∀ (n : Nat) (r0 r1 r2 r3 r4 r5 r6 r7 r8 r9 : List Row) (i10 : Int) (r11 : List Row) (i12 i13 : Int), P_126107_2 (ev E LL D) n r0 r1 r2 r3 r4 r5 r6 r7 r8 r9 i10 r11 i12 i13 = LP_126107_2 LL D n  r0 r1 r2 r3 r4 r5 r6 r7 r8 r9 i10 r11 i12 i13
  | 0, _, _, _, _, _, _, _, _, _, _, _, _, _, _ => by unfold LP_126107_2 lp loopN; rfl
  | n + 1, r0, r1, r2, r3, r4, r5, r6, r7, r8, r9, i10, r11, i12, i13 => by
    have ih : P_126107_2 (ev E LL D) n = fun r0 r1 r2 r3 r4 r5 r6 r7 r8 r9 i10 r11 i12 i13 => LP_126107_2 LL D n  r0 r1 r2 r3 r4 r5 r6 r7 r8 r9 i10 r11 i12 i13 := by funext r0 r1 r2 r3 r4 r5 r6 r7 r8 r9 i10 r11 i12 i13; exact p_126107_2 D n r0 r1 r2 r3 r4 r5 r6 r7 r8 r9 i10 r11 i12 i13
    show B_126107_2 (ev E LL D) (P_126107_2 (ev E LL D) n) r0 r1 r2 r3 r4 r5 r6 r7 r8 r9 i10 r11 i12 i13 = _
    rw [ih, LP_126107_2_succ]
    unfold B_126107_2
    rfl
def G_126107 (rec : Run) (r1 r2 r3 r4 r5 r6 r7 r8 r9 r10 r11 : List Row) (n12 : Int) : Option Res := P_126107_2 rec LL r2 r3 r4 r5 r6 r7 r8 r9 r10 r11 n12 r1 (nrows r1) 0
theorem g_126107 (D : Nat) (r1 r2 r3 r4 r5 r6 r7 r8 r9 r10 r11 : List Row) (n12 : Int) : G_126107 (ev E LL D) r1 r2 r3 r4 r5 r6 r7 r8 r9 r10 r11 n12 = ev E LL (D + 1) 126 [.sl r1, .fn 107 [.ptr (.imp 0) 0, .ptr (.imp 1) 0]] [.cells [.sl r2, .sl r3, .sl r4, .sl r5, .sl r6, .sl r7, .sl r8, .sl r9, .sl r10, .sl r11], .cells [.int .i64 n12]] := by
  rw [eq_126107]
  unfold G_126107
  simp only [p_126107_2]
def B_126115_2 (rec : Run) (self : List Row → Int → Int → Option Res) (r0 : List Row) (i1 i2 : Int) : Option Res := br (iLt i2 i1) (bnd (rowZ 1 r0 i2) fun row => bnd (gStr (cellAt row 0)) fun s => bnd (rec 115 [.str s] []) fun r => bnd (gBool r.1) fun b => br b (some (.int .i64 i2, [])) (self r0 i1 (iAdd .i64 i2 1))) (some (.int .i64 (-1), []))
def P_126115_2 (rec : Run) (n : Nat) : List Row → Int → Int → Option Res := Nat.rec (motive := fun _ => List Row → Int → Int → Option Res) (fun _ _ _ => none) (fun _ self => B_126115_2 rec self) n
theorem p_126115_2 (D : Nat) : ∀ (n : Nat) (r0 : List Row) (i1 i2 : Int), P_126115_2 (ev E LL D) n r0 i1 i2 = LP_126115_2 LL D n  r0 i1 i2
  | 0, _, _, _ => by unfold LP_126115_2 lp loopN; rfl
  | n + 1, r0, i1, i2 => by
    have ih : P_126115_2 (ev E LL D) n = fun r0 i1 i2 => LP_126115_2 LL D n  r0 i1 i2 := by funext r0 i1 i2; exact p_126115_2 D n r0 i1 i2
    show B_126115_2 (ev E LL D) (P_126115_2 (ev E LL D) n) r0 i1 i2 = _
    rw [ih, LP_126115_2_succ]
    unfold B_126115_2
    rfl
def G_126115 (rec : Run) (r1 : List Row) : Option Res := P_126115_2 rec LL r1 (nrows r1) 0
theorem g_126115 (D : Nat) (r1 : List Row) : G_126115 (ev E LL D) r1 = ev E LL (D + 1) 126 [.sl r1, .fn 115 []] [] := by
  rw [eq_126115]
  unfold G_126115
  simp only [p_126115_2]
def B_127039_2 (rec : Run) (self : List Row → Int → Int → Option Res) (r0 : List Row) (i1 i2 : Int) : Option Res := br (iLt i2 i1) (bnd (rowZ 2 r0 i2) fun row => q0_is row fun n_1 s => bnd (rec 39 [.agg (c_is n_1 s)] []) fun r => bnd (gBool r.1) fun b => br b (some (.int .i64 i2, [])) (self r0 i1 (iAdd .i64 i2 1))) (some (.int .i64 (-1), []))
def P_127039_2 (rec : Run) (n : Nat) : List Row → Int → Int → Option Res := Nat.rec (motive := fun _ => List Row → Int → Int → Option Res) (fun _ _ _ => none) (fun _ self => B_127039_2 rec self) n
theorem p_127039_2 (D : Nat) : ∀ (n : Nat) (r0 : List Row) (i1 i2 : Int), P_127039_2 (ev E LL D) n r0 i1 i2 = LP_127039_2 LL D n  r0 i1 i2
  | 0, _, _, _ => by unfold LP_127039_2 lp loopN; rfl
  | n + 1, r0, i1, i2 => by
    have ih : P_127039_2 (ev E LL D) n = fun r0 i1 i2 => LP_127039_2 LL D n  r0 i1 i2 := by funext r0 i1 i2; exact p_127039_2 D n r0 i1 i2
    show B_127039_2 (ev E LL D) (P_127039_2 (ev E LL D) n) r0 i1 i2 = _
    rw [ih, LP_127039_2_succ]
    unfold B_127039_2
    rfl
def G_127039 (rec : Run) (r1 : List Row) : Option Res := P_127039_2 rec LL r1 (nrows r1) 0
theorem g_127039 (D : Nat) (r1 : List Row) : G_127039 (ev E LL D) r1 = ev E LL (D + 1) 127 [.sl r1, .fn 39 []] [] := by
  rw [eq_127039]
  unfold G_127039
  simp only [p_127039_2]
def B_127053_2 (rec : Run) (self : ByteArray → List Row → List Row → List Row → List Row → List Row → List Row → List Row → List Row → List Row → List Row → List Row → Int → Int → Option Res) (s0 : ByteArray) (r1 r2 r3 r4 r5 r6 r7 r8 r9 r10 r11 : List Row) (i12 i13 : Int) : Option Res := br (iLt i13 i12) (bnd (rowZ 2 r11 i13) fun row => q0_is row fun n_1 s => bnd (rec 53 [.agg (c_is n_1 s), .ptr (.imp 0) 0, .ptr (.imp 1) 0] [.cells [.str s0], .cells (c_llllllllll r1 r2 r3 r4 r5 r6 r7 r8 r9 r10)]) fun r => bnd (gCellsN 1 (hdO r.2)) fun ns => bnd (gStr (cellAt ns 0)) fun s => bnd (gCellsN 10 (hdO (tlO r.2))) fun ns => q0_llllllllll ns fun s_1 s_2 s_3 s_4 s_5 s_6 s_7 s_8 s_9 s_10 => bnd (gBool r.1) fun b => br b (some (.int .i64 i13, [.cells [.str s], .cells (c_llllllllll s_1 s_2 s_3 s_4 s_5 s_6 s_7 s_8 s_9 s_10)])) (self s s_1 s_2 s_3 s_4 s_5 s_6 s_7 s_8 s_9 s_10 r11 i12 (iAdd .i64 i13 1))) (some (.int .i64 (-1), [.cells [.str s0], .cells (c_llllllllll r1 r2 r3 r4 r5 r6 r7 r8 r9 r10)]))
def P_127053_2 (rec : Run) (n : Nat) : ByteArray → List Row → List Row → List Row → List Row → List Row → List Row → List Row → List Row → List Row → List Row → List Row → Int → Int → Option Res := Nat.rec (motive := fun _ => ByteArray → List Row → List Row → List Row → List Row → List Row → List Row → List Row → List Row → List Row → List Row → List Row → Int → Int → Option Res) (fun _ _ _ _ _ _ _ _ _ _ _ _ _ _ => none) (fun _ self => B_127053_2 rec self) n
theorem p_127053_2 (D : Nat) : ∀ (n : Nat) (s0 : ByteArray) (r1 r2 r3 r4 r5 r6 r7 r8 r9 r10 r11 : List Row) (i12 i13 : Int), P_127053_2 (ev E LL D) n s0 r1 r2 r3 r4 r5 r6 r7 r8 r9 r10 r11 i12 i13 = LP_127053_2 LL D n  s0 r1 r2 r3 r4 r5 r6 r7 r8 r9 r10 r11 i12 i13
  | 0, _, _, _, _, _, _, _, _, _, _, _, _, _, _ => by unfold LP_127053_2 lp loopN; rfl
  | n + 1, s0, r1, r2, r3, r4, r5, r6, r7, r8, r9, r10, r11, i12, i13 => by
    have ih : P_127053_2 (ev E LL D) n = fun s0 r1 r2 r3 r4 r5 r6 r7 r8 r9 r10 r11 i12 i13 => LP_127053_2 LL D n  s0 r1 r2 r3 r4 r5 r6 r7 r8 r9 r10 r11 i12 i13 := by funext s0 r1 r2 r3 r4 r5 r6 r7 r8 r9 r10 r11 i12 i13; exact p_127053_2 D n s0 r1 r2 r3 r4 r5 r6 r7 r8 r9 r10 r11 i12 i13
    show B_127053_2 (ev E LL D) (P_127053_2 (ev E LL D) n) s0 r1 r2 r3 r4 r5 r6 r7 r8 r9 r10 r11 i12 i13 = _
    rw [ih, LP_127053_2_succ]
    unfold B_127053_2
    rfl
def G_127053 (rec : Run) (r1 : List Row) (s2 : ByteArray) (r3 r4 r5 r6 r7 r8 r9 r10 r11 r12 : List Row) : Option Res := P_127053_2 rec LL s2 r3 r4 r5 r6 r7 r8 r9 r10 r11 r12 r1 (nrows r1) 0
theorem g_127053 (D : Nat) (r1 : List Row) (s2 : ByteArray) (r3 r4 r5 r6 r7 r8 r9 r10 r11 r12 : List Row) : G_127053 (ev E LL D) r1 s2 r3 r4 r5 r6 r7 r8 r9 r10 r11 r12 = ev E LL (D + 1) 127 [.sl r1, .fn 53 [.ptr (.imp 0) 0, .ptr (.imp 1) 0]] [.cells [.str s2], .cells [.sl r3, .sl r4, .sl r5, .sl r6, .sl r7, .sl r8, .sl r9, .sl r10, .sl r11, .sl r12]] := by
  rw [eq_127053]
  unfold G_127053
  simp only [p_127053_2]
def B_128041_2 (rec : Run) (self : List Row → Int → Int → Option Res) (r0 : List Row) (i1 i2 : Int) : Option Res := br (iLt i2 i1) (bnd (rowZ 4 r0 i2) fun row => q0_isis row fun n_1 s n_2 s_1 => bnd (rec 41 [.agg (c_isis n_1 s n_2 s_1)] []) fun r => bnd (gBool r.1) fun b => br b (some (.int .i64 i2, [])) (self r0 i1 (iAdd .i64 i2 1))) (some (.int .i64 (-1), []))
def P_128041_2 (rec : Run) (n : Nat) : List Row → Int → Int → Option Res := Nat.rec (motive := fun _ => List Row → Int → Int → Option Res) (fun _ _ _ => none) (fun _ self => B_128041_2 rec self) n
theorem p_128041_2 (D : Nat) : ∀ (n : Nat) (r0 : List Row) (i1 i2 : Int), P_128041_2 (ev E LL D) n r0 i1 i2 = LP_128041_2 LL D n  r0 i1 i2
  | 0, _, _, _ => by unfold LP_128041_2 lp loopN; rfl
  | n + 1, r0, i1, i2 => by
    have ih : P_128041_2 (ev E LL D) n = fun r0 i1 i2 => LP_128041_2 LL D n  r0 i1 i2 := by funext r0 i1 i2; exact p_128041_2 D n r0 i1 i2
    show B_128041_2 (ev E LL D) (P_128041_2 (ev E LL D) n) r0 i1 i2 = _
    rw [ih, LP_128041_2_succ]
    unfold B_128041_2
    rfl
def G_128041 (rec : Run) (r1 : List Row) : Option Res := P_128041_2 rec LL r1 (nrows r1) 0
theorem g_128041 (D : Nat) (r1 : List Row) : G_128041 (ev E LL D) r1 = ev E LL (D + 1) 128 [.sl r1, .fn 41 []] [] := by
  rw [eq_128041]
  unfold G_128041
  simp only [p_128041_2]
def B_129044_2 (rec : Run) (self : List Row → List Row → List Row → List Row → List Row → List Row → List Row → List Row → List Row → List Row → List Row → Int → Int → Option Res) (r0 r1 r2 r3 r4 r5 r6 r7 r8 r9 r10 : List Row) (i11 i12 : Int) : Option Res := br (iLt i12 i11) (bnd (rowZ 2 r10 i12) fun row => q0_ii row fun n_1 n_2 => bnd (rec 44 [.agg (c_ii n_1 n_2), .ptr (.imp 0) 0] [.cells (c_llllllllll r0 r1 r2 r3 r4 r5 r6 r7 r8 r9)]) fun r => bnd (gCellsN 10 (hdO r.2)) fun ns => q0_llllllllll ns fun s s_1 s_2 s_3 s_4 s_5 s_6 s_7 s_8 s_9 => bnd (gBool r.1) fun b => br b (some (.int .i64 i12, [.cells (c_llllllllll s s_1 s_2 s_3 s_4 s_5 s_6 s_7 s_8 s_9)])) (self s s_1 s_2 s_3 s_4 s_5 s_6 s_7 s_8 s_9 r10 i11 (iAdd .i64 i12 1))) (some (.int .i64 (-1), [.cells (c_llllllllll r0 r1 r2 r3 r4 r5 r6 r7 r8 r9)]))
def P_129044_2 (rec : Run) (n : Nat) : List Row → List Row → List Row → List Row → List Row → List Row → List Row → List Row → List Row → List Row → List Row → Int → Int → Option Res := Nat.rec (motive := fun _ => List Row → List Row → List Row → List Row → List Row → List Row → List Row → List Row → List Row → List Row → List Row → Int → Int → Option Res) (fun _ _ _ _ _ _ _ _ _ _ _ _ _ => none) (fun _ self => B_129044_2 rec self) n
theorem p_129044_2 (D : Nat) : ∀ (n : Nat) (r0 r1 r2 r3 r4 r5 r6 r7 r8 r9 r10 : List Row) (i11 i12 : Int), P_129044_2 (ev E LL D) n r0 r1 r2 r3 r4 r5 r6 r7 r8 r9 r10 i11 i12 = LP_129044_2 LL D n  r0 r1 r2 r3 r4 r5 r6 r7 r8 r9 r10 i11 i12
  | 0, _, _, _, _, _, _, _, _, _, _, _, _, _ => by unfold LP_129044_2 lp loopN; rfl
  | n + 1, r0, r1, r2, r3, r4, r5, r6, r7, r8, r9, r10, i11, i12 => by
    have ih : P_129044_2 (ev E LL D) n = fun r0 r1 r2 r3 r4 r5 r6 r7 r8 r9 r10 i11 i12 => LP_129044_2 LL D n  r0 r1 r2 r3 r4 r5 r6 r7 r8 r9 r10 i11 i12 := by funext r0 r1 r2 r3 r4 r5 r6 r7 r8 r9 r10 i11 i12; exact p_129044_2 D n r0 r1 r2 r3 r4 r5 r6 r7 r8 r9 r10 i11 i12
    show B_129044_2 (ev E LL D) (P_129044_2 (ev E LL D) n) r0 r1 r2 r3 r4 r5 r6 r7 r8 r9 r10 i11 i12 = _
    rw [ih, LP_129044_2_succ]
    unfold B_129044_2
    rfl
def G_129044 (rec : Run) (r1 r2 r3 r4 r5 r6 r7 r8 r9 r10 r11 : List Row) : Option Res := P_129044_2 rec LL r2 r3 r4 r5 r6 r7 r8 r9 r10 r11 r1 (nrows r1) 0
theorem g_129044 (D : Nat) (r1 r2 r3 r4 r5 r6 r7 r8 r9 r10 r11 : List Row) : G_129044 (ev E LL D) r1 r2 r3 r4 r5 r6 r7 r8 r9 r10 r11 = ev E LL (D + 1) 129 [.sl r1, .fn 44 [.ptr (.imp 0) 0]] [.cells [.sl r2, .sl r3, .sl r4, .sl r5, .sl r6, .sl r7, .sl r8, .sl r9, .sl r10, .sl r11]] := by
  rw [eq_129044]
  unfold G_129044
  simp only [p_129044_2]
def B_148_13 (rec : Run) (k10 : List Row → List Row → List Row → List Row → List Row → List Row → List Row → List Row → Bool → Int → List Row → List Row → Int → ByteArray → ByteArray → Bool → Int → Int → Int → Int → ByteArray → ByteArray → Int → ByteArray → ByteArray → Int → Int → ByteArray → Int → Int → ByteArray → ByteArray → ByteArray → ByteArray → ByteArray → Int → Bool → Int → Int → List Row → Int → ByteArray → ByteArray → Int → ByteArray → ByteArray → Int → Int → ByteArray → Int → Int → ByteArray → ByteArray → ByteArray → ByteArray → ByteArray → Int → ByteArray → List Row → List Row → Int → Int → Option Res) (self : List Row → List Row → List Row → List Row → List Row → List Row → List Row → List Row → List Row → Bool → Int → List Row → List Row → Int → ByteArray → ByteArray → Bool → Int → Int → Int → Int → ByteArray → ByteArray → Int → ByteArray → ByteArray → Int → Int → ByteArray → Int → Int → ByteArray → ByteArray → ByteArray → ByteArray → ByteArray → Int → Bool → Int → Int → List Row → Int → ByteArray → ByteArray → Int → ByteArray → ByteArray → Int → Int → ByteArray → Int → Int → ByteArray → ByteArray → ByteArray → ByteArray → ByteArray → Int → ByteArray → List Row → Int → List Row → Int → Int → Int → Int → Int → Option Res) (r0 r1 r2 r3 r4 r5 r6 r7 r8 : List Row) (b9 : Bool) (i10 : Int) (r11 r12 : List Row) (i13 : Int) (s14 s15 : ByteArray) (b16 : Bool) (i17 i18 i19 i20 : Int) (s21 s22 : ByteArray) (i23 : Int) (s24 s25 : ByteArray) (i26 i27 : Int) (s28 : ByteArray) (i29 i30 : Int) (s31 s32 s33 s34 s35 : ByteArray) (i36 : Int) (b37 : Bool) (i38 i39 : Int) (r40 : List Row) (i41 : Int) (s42 s43 : ByteArray) (i44 : Int) (s45 s46 : ByteArray) (i47 i48 : Int) (s49 : ByteArray) (i50 i51 : Int) (s52 s53 s54 s55 s56 : ByteArray) (i57 : Int) (s58 : ByteArray) (r59 : List Row) (i60 : Int) (r61 : List Row) (i62 i63 i64 i65 i66 : Int) : Option Res := br (iLt i66 i65) (br (iEq i64 (nrows r8)) (bnd (rowZ 1 r8 i66) fun x => br (iEq i64 (nrows r8)) (bnd (rowAt r8 i66) fun row => bnd (gInt .i64 (cellAt row 0)) fun n_1 => br (bNot (iLt i57 0)) (bnd (rec 112 [.int .i64 i57] []) fun r => bnd (gInt .i64 r.1) fun n_2 => br (bNot (iEq n_1 n_2)) (br (iEq i36 (nrows r4)) (bnd (rowZ 1 r4 n_1) fun x => br (iEq i36 (nrows r4)) (bnd (rowAt r4 n_1) fun row => bnd (gStr (cellAt row 0)) fun s => bnd (rowZ 2 r40 (iAdd .i64 i60 1)) fun row => bnd (gStr (cellAt row 1)) fun s_1 => br (iEq (nrows [(c_ss s s_1)]) (nrows [(c_ss s s_1)])) (br (bAnd (iEq i51 (nrows r7)) (bAnd (okR 2 r7) (bAnd (okR 2 [(c_ss s s_1)]) (fits (nrows r7) (nrows [(c_ss s s_1)]) 32)))) (self r0 r1 r2 r3 r4 r5 r6 (catR r7 [(c_ss s s_1)]) r8 b9 i10 r11 r12 i13 s14 s15 b16 i17 i18 i19 i20 s21 s22 i23 s24 s25 i26 i27 s28 i29 i30 s31 s32 s33 s34 s35 i36 b37 i38 i39 r40 i41 s42 s43 i44 s45 s46 i47 i48 s49 i50 (nrows (catR r7 [(c_ss s s_1)])) s52 s53 s54 s55 s56 i57 s58 r59 i60 r61 i62 i63 i64 i65 (iAdd .i64 i66 1)) none) none) none) none) (self r0 r1 r2 r3 r4 r5 r6 r7 r8 b9 i10 r11 r12 i13 s14 s15 b16 i17 i18 i19 i20 s21 s22 i23 s24 s25 i26 i27 s28 i29 i30 s31 s32 s33 s34 s35 i36 b37 i38 i39 r40 i41 s42 s43 i44 s45 s46 i47 i48 s49 i50 i51 s52 s53 s54 s55 s56 i57 s58 r59 i60 r61 i62 i63 i64 i65 (iAdd .i64 i66 1))) (br (iEq i36 (nrows r4)) (bnd (rowZ 1 r4 n_1) fun x => br (iEq i36 (nrows r4)) (bnd (rowAt r4 n_1) fun row => bnd (gStr (cellAt row 0)) fun s => bnd (rowZ 2 r40 (iAdd .i64 i60 1)) fun row => bnd (gStr (cellAt row 1)) fun s_1 => br (iEq (nrows [(c_ss s s_1)]) (nrows [(c_ss s s_1)])) (br (bAnd (iEq i51 (nrows r7)) (bAnd (okR 2 r7) (bAnd (okR 2 [(c_ss s s_1)]) (fits (nrows r7) (nrows [(c_ss s s_1)]) 32)))) (self r0 r1 r2 r3 r4 r5 r6 (catR r7 [(c_ss s s_1)]) r8 b9 i10 r11 r12 i13 s14 s15 b16 i17 i18 i19 i20 s21 s22 i23 s24 s25 i26 i27 s28 i29 i30 s31 s32 s33 s34 s35 i36 b37 i38 i39 r40 i41 s42 s43 i44 s45 s46 i47 i48 s49 i50 (nrows (catR r7 [(c_ss s s_1)])) s52 s53 s54 s55 s56 i57 s58 r59 i60 r61 i62 i63 i64 i65 (iAdd .i64 i66 1)) none) none) none) none)) none) none) (k10 r0 r1 r2 r3 r4 r5 r6 r7 b9 i10 r11 r12 i13 s14 s15 b16 i17 i18 i19 i20 s21 s22 i23 s24 s25 i26 i27 s28 i29 i30 s31 s32 s33 s34 s35 i36 b37 i38 i39 r40 i41 s42 s43 i44 s45 s46 i47 i48 s49 i50 i51 s52 s53 s54 s55 s56 i57 s58 r59 r61 i62 (iAdd .i64 i63 1))
def P_148_13 (rec : Run) (k10 : List Row → List Row → List Row → List Row → List Row → List Row → List Row → List Row → Bool → Int → List Row → List Row → Int → ByteArray → ByteArray → Bool → Int → Int → Int → Int → ByteArray → ByteArray → Int → ByteArray → ByteArray → Int → Int → ByteArray → Int → Int → ByteArray → ByteArray → ByteArray → ByteArray → ByteArray → Int → Bool → Int → Int → List Row → Int → ByteArray → ByteArray → Int → ByteArray → ByteArray → Int → Int → ByteArray → Int → Int → ByteArray → ByteArray → ByteArray → ByteArray → ByteArray → Int → ByteArray → List Row → List Row → Int → Int → Option Res) (n : Nat) : List Row → List Row → List Row → List Row → List Row → List Row → List Row → List Row → List Row → Bool → Int → List Row → List Row → Int → ByteArray → ByteArray → Bool → Int → Int → Int → Int → ByteArray → ByteArray → Int → ByteArray → ByteArray → Int → Int → ByteArray → Int → Int → ByteArray → ByteArray → ByteArray → ByteArray → ByteArray → Int → Bool → Int → Int → List Row → Int → ByteArray → ByteArray → Int → ByteArray → ByteArray → Int → Int → ByteArray → Int → Int → ByteArray → ByteArray → ByteArray → ByteArray → ByteArray → Int → ByteArray → List Row → Int → List Row → Int → Int → Int → Int → Int → Option Res := Nat.rec (motive := fun _ => List Row → List Row → List Row → List Row → List Row → List Row → List Row → List Row → List Row → Bool → Int → List Row → List Row → Int → ByteArray → ByteArray → Bool → Int → Int → Int → Int → ByteArray → ByteArray → Int → ByteArray → ByteArray → Int → Int → ByteArray → Int → Int → ByteArray → ByteArray → ByteArray → ByteArray → ByteArray → Int → Bool → Int → Int → List Row → Int → ByteArray → ByteArray → Int → ByteArray → ByteArray → Int → Int → ByteArray → Int → Int → ByteArray → ByteArray → ByteArray → ByteArray → ByteArray → Int → ByteArray → List Row → Int → List Row → Int → Int → Int → Int → Int → Option Res) (fun _ _ _ _ _ _ _ _ _ _ _ _ _ _ _ _ _ _ _ _ _ _ _ _ _ _ _ _ _ _ _ _ _ _ _ _ _ _ _ _ _ _ _ _ _ _ _ _ _ _ _ _ _ _ _ _ _ _ _ _ _ _ _ _ _ _ _ => none) (fun _ self => B_148_13 rec k10 self) n
theorem p_148_13 (D n10 : Nat) : ∀ (n : Nat) (r0 r1 r2 r3 r4 r5 r6 r7 r8 : List Row) (b9 : Bool) (i10 : Int) (r11 r12 : List Row) (i13 : Int) (s14 s15 : ByteArray) (b16 : Bool) (i17 i18 i19 i20 : Int) (s21 s22 : ByteArray) (i23 : Int) (s24 s25 : ByteArray) (i26 i27 : Int) (s28 : ByteArray) (i29 i30 : Int) (s31 s32 s33 s34 s35 : ByteArray) (i36 : Int) (b37 : Bool) (i38 i39 : Int) (r40 : List Row) (i41 : Int) (s42 s43 : ByteArray) (i44 : Int) (s45 s46 : ByteArray) (i47 i48 : Int) (s49 : ByteArray) (i50 i51 : Int) (s52 s53 s54 s55 s56 : ByteArray) (i57 : Int) (s58 : ByteArray) (r59 : List Row) (i60 : Int) (r61 : List Row) (i62 i63 i64 i65 i66 : Int), P_148_13 (ev E LL D) (fun r0 r1 r2 r3 r4 r5 r6 r7 b8 i9 r10 r11 i12 s13 s14 b15 i16 i17 i18 i19 s20 s21 i22 s23 s24 i25 i26 s27 i28 i29 s30 s31 s32 s33 s34 i35 b36 i37 i38 r39 i40 s41 s42 i43 s44 s45 i46 i47 s48 i49 i50 s51 s52 s53 s54 s55 i56 s57 r58 r59 i60 i61 => LP_148_10 LL D n10 r0 r1 r2 r3 r4 r5 r6 r7 b8 i9 r10 r11 i12 s13 s14 b15 i16 i17 i18 i19 s20 s21 i22 s23 s24 i25 i26 s27 i28 i29 s30 s31 s32 s33 s34 i35 b36 i37 i38 r39 i40 s41 s42 i43 s44 s45 i46 i47 s48 i49 i50 s51 s52 s53 s54 s55 i56 s57 r58 r59 i60 i61) n r0 r1 r2 r3 r4 r5 r6 r7 r8 b9 i10 r11 r12 i13 s14 s15 b16 i17 i18 i19 i20 s21 s22 i23 s24 s25 i26 i27 s28 i29 i30 s31 s32 s33 s34 s35 i36 b37 i38 i39 r40 i41 s42 s43 i44 s45 s46 i47 i48 s49 i50 i51 s52 s53 s54 s55 s56 i57 s58 r59 i60 r61 i62 i63 i64 i65 i66 = LP_148_13 LL D n n10 r0 r1 r2 r3 r4 r5 r6 r7 r8 b9 i10 r11 r12 i13 s14 s15 b16 i17 i18 i19 i20 s21 s22 i23 s24 s25 i26 i27 s28 i29 i30 s31 s32 s33 s34 s35 i36 b37 i38 i39 r40 i41 s42 s43 i44 s45 s46 i47 i48 s49 i50 i51 s52 s53 s54 s55 s56 i57 s58 r59 i60 r61 i62 i63 i64 i65 i66
  | 0, _, _, _, _, _, _, _, _, _, _, _, _, _, _, _, _, _, _, _, _, _, _, _, _, _, _, _, _, _, _, _, _, _, _, _, _, _, _, _, _, _, _, _, _, _, _, _, _, _, _, _, _, _, _, _, _, _, _, _, _, _, _, _, _, _, _, _ => by unfold LP_148_13 lp loopN; rfl
  | n + 1, r0, r1, r2, r3, r4, r5, r6, r7, r8, b9, i10, r11, r12, i13, s14, s15, b16, i17, i18, i19, i20, s21, s22, i23, s24, s25, i26, i27, s28, i29, i30, s31, s32, s33, s34, s35, i36, b37, i38, i39, r40, i41, s42, s43, i44, s45, s46, i47, i48, s49, i50, i51, s52, s53, s54, s55, s56, i57, s58, r59, i60, r61, i62, i63, i64, i65, i66 => by
    have ih : P_148_13 (ev E LL D) (fun r0 r1 r2 r3 r4 r5 r6 r7 b8 i9 r10 r11 i12 s13 s14 b15 i16 i17 i18 i19 s20 s21 i22 s23 s24 i25 i26 s27 i28 i29 s30 s31 s32 s33 s34 i35 b36 i37 i38 r39 i40 s41 s42 i43 s44 s45 i46 i47 s48 i49 i50 s51 s52 s53 s54 s55 i56 s57 r58 r59 i60 i61 => LP_148_10 LL D n10 r0 r1 r2 r3 r4 r5 r6 r7 b8 i9 r10 r11 i12 s13 s14 b15 i16 i17 i18 i19 s20 s21 i22 s23 s24 i25 i26 s27 i28 i29 s30 s31 s32 s33 s34 i35 b36 i37 i38 r39 i40 s41 s42 i43 s44 s45 i46 i47 s48 i49 i50 s51 s52 s53 s54 s55 i56 s57 r58 r59 i60 i61) n = fun r0 r1 r2 r3 r4 r5 r6 r7 r8 b9 i10 r11 r12 i13 s14 s15 b16 i17 i18 i19 i20 s21 s22 i23 s24 s25 i26 i27 s28 i29 i30 s31 s32 s33 s34 s35 i36 b37 i38 i39 r40 i41 s42 s43 i44 s45 s46 i47 i48 s49 i50 i51 s52 s53 s54 s55 s56 i57 s58 r59 i60 r61 i62 i63 i64 i65 i66 => LP_148_13 LL D n n10 r0 r1 r2 r3 r4 r5 r6 r7 r8 b9 i10 r11 r12 i13 s14 s15 b16 i17 i18 i19 i20 s21 s22 i23 s24 s25 i26 i27 s28 i29 i30 s31 s32 s33 s34 s35 i36 b37 i38 i39 r40 i41 s42 s43 i44 s45 s46 i47 i48 s49 i50 i51 s52 s53 s54 s55 s56 i57 s58 r59 i60 r61 i62 i63 i64 i65 i66 := by funext r0 r1 r2 r3 r4 r5 r6 r7 r8 b9 i10 r11 r12 i13 s14 s15 b16 i17 i18 i19 i20 s21 s22 i23 s24 s25 i26 i27 s28 i29 i30 s31 s32 s33 s34 s35 i36 b37 i38 i39 r40 i41 s42 s43 i44 s45 s46 i47 i48 s49 i50 i51 s52 s53 s54 s55 s56 i57 s58 r59 i60 r61 i62 i63 i64 i65 i66; exact p_148_13 D n10 n r0 r1 r2 r3 r4 r5 r6 r7 r8 b9 i10 r11 r12 i13 s14 s15 b16 i17 i18 i19 i20 s21 s22 i23 s24 s25 i26 i27 s28 i29 i30 s31 s32 s33 s34 s35 i36 b37 i38 i39 r40 i41 s42 s43 i44 s45 s46 i47 i48 s49 i50 i51 s52 s53 s54 s55 s56 i57 s58 r59 i60 r61 i62 i63 i64 i65 i66
    show B_148_13 (ev E LL D) (fun r0 r1 r2 r3 r4 r5 r6 r7 b8 i9 r10 r11 i12 s13 s14 b15 i16 i17 i18 i19 s20 s21 i22 s23 s24 i25 i26 s27 i28 i29 s30 s31 s32 s33 s34 i35 b36 i37 i38 r39 i40 s41 s42 i43 s44 s45 i46 i47 s48 i49 i50 s51 s52 s53 s54 s55 i56 s57 r58 r59 i60 i61 => LP_148_10 LL D n10 r0 r1 r2 r3 r4 r5 r6 r7 b8 i9 r10 r11 i12 s13 s14 b15 i16 i17 i18 i19 s20 s21 i22 s23 s24 i25 i26 s27 i28 i29 s30 s31 s32 s33 s34 i35 b36 i37 i38 r39 i40 s41 s42 i43 s44 s45 i46 i47 s48 i49 i50 s51 s52 s53 s54 s55 i56 s57 r58 r59 i60 i61) (P_148_13 (ev E LL D) (fun r0 r1 r2 r3 r4 r5 r6 r7 b8 i9 r10 r11 i12 s13 s14 b15 i16 i17 i18 i19 s20 s21 i22 s23 s24 i25 i26 s27 i28 i29 s30 s31 s32 s33 s34 i35 b36 i37 i38 r39 i40 s41 s42 i43 s44 s45 i46 i47 s48 i49 i50 s51 s52 s53 s54 s55 i56 s57 r58 r59 i60 i61 => LP_148_10 LL D n10 r0 r1 r2 r3 r4 r5 r6 r7 b8 i9 r10 r11 i12 s13 s14 b15 i16 i17 i18 i19 s20 s21 i22 s23 s24 i25 i26 s27 i28 i29 s30 s31 s32 s33 s34 i35 b36 i37 i38 r39 i40 s41 s42 i43 s44 s45 i46 i47 s48 i49 i50 s51 s52 s53 s54 s55 i56 s57 r58 r59 i60 i61) n) r0 r1 r2 r3 r4 r5 r6 r7 r8 b9 i10 r11 r12 i13 s14 s15 b16 i17 i18 i19 i20 s21 s22 i23 s24 s25 i26 i27 s28 i29 i30 s31 s32 s33 s34 s35 i36 b37 i38 i39 r40 i41 s42 s43 i44 s45 s46 i47 i48 s49 i50 i51 s52 s53 s54 s55 s56 i57 s58 r59 i60 r61 i62 i63 i64 i65 i66 = _
    rw [ih, LP_148_13_succ]
    unfold B_148_13
    rfl
def B_148_10 (rec : Run) (self : List Row → List Row → List Row → List Row → List Row → List Row → List Row → List Row → Bool → Int → List Row → List Row → Int → ByteArray → ByteArray → Bool → Int → Int → Int → Int → ByteArray → ByteArray → Int → ByteArray → ByteArray → Int → Int → ByteArray → Int → Int → ByteArray → ByteArray → ByteArray → ByteArray → ByteArray → Int → Bool → Int → Int → List Row → Int → ByteArray → ByteArray → Int → ByteArray → ByteArray → Int → Int → ByteArray → Int → Int → ByteArray → ByteArray → ByteArray → ByteArray → ByteArray → Int → ByteArray → List Row → List Row → Int → Int → Option Res) (r0 r1 r2 r3 r4 r5 r6 r7 : List Row) (b8 : Bool) (i9 : Int) (r10 r11 : List Row) (i12 : Int) (s13 s14 : ByteArray) (b15 : Bool) (i16 i17 i18 i19 : Int) (s20 s21 : ByteArray) (i22 : Int) (s23 s24 : ByteArray) (i25 i26 : Int) (s27 : ByteArray) (i28 i29 : Int) (s30 s31 s32 s33 s34 : ByteArray) (i35 : Int) (b36 : Bool) (i37 i38 : Int) (r39 : List Row) (i40 : Int) (s41 s42 : ByteArray) (i43 : Int) (s44 s45 : ByteArray) (i46 i47 : Int) (s48 : ByteArray) (i49 i50 : Int) (s51 s52 s53 s54 s55 : ByteArray) (i56 : Int) (s57 : ByteArray) (r58 r59 : List Row) (i60 i61 : Int) : Option Res := br (iLt i61 i60) (bnd (rowZ 1 r59 i61) fun row => bnd (gInt .i64 (cellAt row 0)) fun n_1 => bnd (rec 179 [.int .i64 n_1] []) fun r => bnd (gInt .i64 r.1) fun n_2 => br (iEq i35 (nrows r4)) (bnd (rec 178 [.agg [.sl r4], .int .i64 n_2] []) fun r => bnd (gOwn r.1) fun r => br (iEq (nrows r) (nrows r)) (P_148_13 rec self LL r0 r1 r2 r3 r4 r5 r6 r7 r b8 i9 r10 r11 i12 s13 s14 b15 i16 i17 i18 i19 s20 s21 i22 s23 s24 i25 i26 s27 i28 i29 s30 s31 s32 s33 s34 i35 b36 i37 i38 r39 i40 s41 s42 i43 s44 s45 i46 i47 s48 i49 i50 s51 s52 s53 s54 s55 i56 s57 r58 i61 r59 i60 i61 (nrows r) (nrows r) 0) none) none) (br (iEq i50 (nrows r7)) (bnd (rec 45 [.sl r7] []) fun r => bnd (gOwn r.1) fun r => br (iLe 0 i56) (bnd (rec 112 [.int .i64 i9] []) fun r_1 => bnd (gInt .i64 r_1.1) fun n => bnd (rec 112 [.int .i64 i56] []) fun r_2 => bnd (gInt .i64 r_2.1) fun n_1 => bnd (rec 155 (c_ii n n_1) []) fun r_3 => bnd (gInt .i64 r_3.1) fun n => bnd (rec 180 (c_li r58 n) []) fun r_4 => bnd (gInt .i64 r_4.1) fun n => bnd (rowZ 2 r39 n) fun row => bnd (gStr (cellAt row 1)) fun s => br (iEq i38 (nrows r5)) (br (iEq i49 (nrows r6)) (br (iEq (nrows r) (nrows r)) (some (.tup [.agg (c_billiss b36 i37 r5 r39 i40 s41 s42), .agg (c_issiisllsssss i43 s44 s45 i46 i47 s48 r6 r s57 s57 s41 s57 s), .bool true], [])) none) none) none) (br (iEq i38 (nrows r5)) (br (iEq i49 (nrows r6)) (br (iEq (nrows r) (nrows r)) (some (.tup [.agg (c_billiss b36 i37 r5 r39 i40 s41 s42), .agg (c_issiisllsssss i43 s44 s45 i46 i47 s48 r6 r s51 s52 s53 s54 s55), .bool true], [])) none) none) none)) none)
def P_148_10 (rec : Run) (n : Nat) : List Row → List Row → List Row → List Row → List Row → List Row → List Row → List Row → Bool → Int → List Row → List Row → Int → ByteArray → ByteArray → Bool → Int → Int → Int → Int → ByteArray → ByteArray → Int → ByteArray → ByteArray → Int → Int → ByteArray → Int → Int → ByteArray → ByteArray → ByteArray → ByteArray → ByteArray → Int → Bool → Int → Int → List Row → Int → ByteArray → ByteArray → Int → ByteArray → ByteArray → Int → Int → ByteArray → Int → Int → ByteArray → ByteArray → ByteArray → ByteArray → ByteArray → Int → ByteArray → List Row → List Row → Int → Int → Option Res := Nat.rec (motive := fun _ => List Row → List Row → List Row → List Row → List Row → List Row → List Row → List Row → Bool → Int → List Row → List Row → Int → ByteArray → ByteArray → Bool → Int → Int → Int → Int → ByteArray → ByteArray → Int → ByteArray → ByteArray → Int → Int → ByteArray → Int → Int → ByteArray → ByteArray → ByteArray → ByteArray → ByteArray → Int → Bool → Int → Int → List Row → Int → ByteArray → ByteArray → Int → ByteArray → ByteArray → Int → Int → ByteArray → Int → Int → ByteArray → ByteArray → ByteArray → ByteArray → ByteArray → Int → ByteArray → List Row → List Row → Int → Int → Option Res) (fun _ _ _ _ _ _ _ _ _ _ _ _ _ _ _ _ _ _ _ _ _ _ _ _ _ _ _ _ _ _ _ _ _ _ _ _ _ _ _ _ _ _ _ _ _ _ _ _ _ _ _ _ _ _ _ _ _ _ _ _ _ _ => none) (fun _ self => B_148_10 rec self) n
theorem p_148_10 (D : Nat) : ∀ (n : Nat) (r0 r1 r2 r3 r4 r5 r6 r7 : List Row) (b8 : Bool) (i9 : Int) (r10 r11 : List Row) (i12 : Int) (s13 s14 : ByteArray) (b15 : Bool) (i16 i17 i18 i19 : Int) (s20 s21 : ByteArray) (i22 : Int) (s23 s24 : ByteArray) (i25 i26 : Int) (s27 : ByteArray) (i28 i29 : Int) (s30 s31 s32 s33 s34 : ByteArray) (i35 : Int) (b36 : Bool) (i37 i38 : Int) (r39 : List Row) (i40 : Int) (s41 s42 : ByteArray) (i43 : Int) (s44 s45 : ByteArray) (i46 i47 : Int) (s48 : ByteArray) (i49 i50 : Int) (s51 s52 s53 s54 s55 : ByteArray) (i56 : Int) (s57 : ByteArray) (r58 r59 : List Row) (i60 i61 : Int), P_148_10 (ev E LL D) n r0 r1 r2 r3 r4 r5 r6 r7 b8 i9 r10 r11 i12 s13 s14 b15 i16 i17 i18 i19 s20 s21 i22 s23 s24 i25 i26 s27 i28 i29 s30 s31 s32 s33 s34 i35 b36 i37 i38 r39 i40 s41 s42 i43 s44 s45 i46 i47 s48 i49 i50 s51 s52 s53 s54 s55 i56 s57 r58 r59 i60 i61 = LP_148_10 LL D n  r0 r1 r2 r3 r4 r5 r6 r7 b8 i9 r10 r11 i12 s13 s14 b15 i16 i17 i18 i19 s20 s21 i22 s23 s24 i25 i26 s27 i28 i29 s30 s31 s32 s33 s34 i35 b36 i37 i38 r39 i40 s41 s42 i43 s44 s45 i46 i47 s48 i49 i50 s51 s52 s53 s54 s55 i56 s57 r58 r59 i60 i61
  | 0, _, _, _, _, _, _, _, _, _, _, _, _, _, _, _, _, _, _, _, _, _, _, _, _, _, _, _, _, _, _, _, _, _, _, _, _, _, _, _, _, _, _, _, _, _, _, _, _, _, _, _, _, _, _, _, _, _, _, _, _, _, _ => by unfold LP_148_10 lp loopN; rfl
  | n + 1, r0, r1, r2, r3, r4, r5, r6, r7, b8, i9, r10, r11, i12, s13, s14, b15, i16, i17, i18, i19, s20, s21, i22, s23, s24, i25, i26, s27, i28, i29, s30, s31, s32, s33, s34, i35, b36, i37, i38, r39, i40, s41, s42, i43, s44, s45, i46, i47, s48, i49, i50, s51, s52, s53, s54, s55, i56, s57, r58, r59, i60, i61 => by
    have ih : P_148_10 (ev E LL D) n = fun r0 r1 r2 r3 r4 r5 r6 r7 b8 i9 r10 r11 i12 s13 s14 b15 i16 i17 i18 i19 s20 s21 i22 s23 s24 i25 i26 s27 i28 i29 s30 s31 s32 s33 s34 i35 b36 i37 i38 r39 i40 s41 s42 i43 s44 s45 i46 i47 s48 i49 i50 s51 s52 s53 s54 s55 i56 s57 r58 r59 i60 i61 => LP_148_10 LL D n  r0 r1 r2 r3 r4 r5 r6 r7 b8 i9 r10 r11 i12 s13 s14 b15 i16 i17 i18 i19 s20 s21 i22 s23 s24 i25 i26 s27 i28 i29 s30 s31 s32 s33 s34 i35 b36 i37 i38 r39 i40 s41 s42 i43 s44 s45 i46 i47 s48 i49 i50 s51 s52 s53 s54 s55 i56 s57 r58 r59 i60 i61 := by funext r0 r1 r2 r3 r4 r5 r6 r7 b8 i9 r10 r11 i12 s13 s14 b15 i16 i17 i18 i19 s20 s21 i22 s23 s24 i25 i26 s27 i28 i29 s30 s31 s32 s33 s34 i35 b36 i37 i38 r39 i40 s41 s42 i43 s44 s45 i46 i47 s48 i49 i50 s51 s52 s53 s54 s55 i56 s57 r58 r59 i60 i61; exact p_148_10 D n r0 r1 r2 r3 r4 r5 r6 r7 b8 i9 r10 r11 i12 s13 s14 b15 i16 i17 i18 i19 s20 s21 i22 s23 s24 i25 i26 s27 i28 i29 s30 s31 s32 s33 s34 i35 b36 i37 i38 r39 i40 s41 s42 i43 s44 s45 i46 i47 s48 i49 i50 s51 s52 s53 s54 s55 i56 s57 r58 r59 i60 i61
    show B_148_10 (ev E LL D) (P_148_10 (ev E LL D) n) r0 r1 r2 r3 r4 r5 r6 r7 b8 i9 r10 r11 i12 s13 s14 b15 i16 i17 i18 i19 s20 s21 i22 s23 s24 i25 i26 s27 i28 i29 s30 s31 s32 s33 s34 i35 b36 i37 i38 r39 i40 s41 s42 i43 s44 s45 i46 i47 s48 i49 i50 s51 s52 s53 s54 s55 i56 s57 r58 r59 i60 i61 = _
    rw [ih, LP_148_10_succ]
    unfold B_148_10
    simp only [p_148_13]
def G_148 (rec : Run) (b1 : Bool) (n2 : Int) (r3 r4 : List Row) (n5 : Int) (s6 s7 s8 : ByteArray) (n9 n10 : Int) (s11 s12 : ByteArray) : Option Res := bnd (rec 22 [.agg (c_billiss b1 n2 r3 r4 n5 s6 s7)] []) fun r => bnd (gBool r.1) fun b => br (bNot (bNot b)) (br (bNot (bNot b1)) (br (bNot (iLe 12 n5)) (bnd (rec 72 [.str s8] []) fun r => bnd (gAggN 5 r.1) fun cs => q0_iiis cs fun n n_1 n_2 s => bnd (gStr (cellAt cs 4)) fun s => br (bNot (bNot (iEq n 1))) (bnd (rec 73 (c_ii n9 n2) []) fun r => bnd (gBool r.1) fun b => br (bNot (bNot b)) (bnd (rec 73 (c_ii n10 n2) []) fun r => bnd (gBool r.1) fun b => br (bNot (bNot b)) (bnd (rec 176 [.agg [.sl r3], .int .i64 n9, .int .i64 n10] []) fun r => bnd (gBool r.1) fun b => br (bNot (bNot b)) (bnd (rec 74 (c_iss n9 s11 s12) []) fun r => bnd (gBool r.1) fun b => br (bNot (bNot b)) (br (bNot (iLt 300 (iAdd .i64 (sLen s7) (sLen s8)))) (br (iLt 280 (sLen s6)) (some (.tup [.agg (c_billiss false 0 [] [] 0 (bs []) (bs [])), .agg (c_issiisllsssss 0 (bs []) (bs []) 0 0 (bs []) [] [] (bs []) (bs []) (bs []) (bs []) (bs [])), .bool false], [])) (bnd (rec 177 [.agg [.sl r3], .int .i64 n9, .int .i64 n10, .str s11] []) fun r => bnd (gAggN 1 r.1) fun cs => bnd (gOwn (cellAt cs 0)) fun r => bnd (rec 60 [.int .i64 n2] []) fun r_1 => bnd (gSl r_1.1) fun r_2 => br (iEq (nrows r) (nrows r)) (bnd (rec 58 [.agg [.sl r], .int .i64 n2, .str s8] []) fun r_3 => bnd (gAggN 1 r_3.1) fun cs => bnd (gOwn (cellAt cs 0)) fun r_4 => bnd (rec 59 (c_ls r_2 s8) []) fun r_5 => bnd (gSl r_5.1) fun r_6 => br (fits (sLen s7) (sLen s8) 1) (bnd (rowZ 2 r_6 (iSub .i64 (nrows r_2) 1)) fun row => bnd (gStr (cellAt row 1)) fun s => bnd (rec 159 [.str s] []) fun r_7 => bnd (gStr r_7.1) fun s => bnd (rec 158 (c_ss s6 s) []) fun r_8 => bnd (gStr r_8.1) fun s => br (iEq (nrows r_4) (nrows r_4)) (bnd (rec 46 [.sl r_4] []) fun r_9 => bnd (gOwn r_9.1) fun r_10 => br (bAnd (okR 1 r_2) (bAnd (iLe 0 0) (bAnd (iLe 0 (iSub .i64 (nrows r_2) 1)) (iLe (iSub .i64 (nrows r_2) 1) (nrows r_2))))) (P_148_10 rec LL [] [] [] [] r r_4 r_10 [] b1 n2 r3 r4 n5 s6 s7 false 0 (nrows []) (nrows []) 0 (bs []) (bs []) 0 (bs []) (bs []) 0 0 (bs []) (nrows []) (nrows []) (bs []) (bs []) (bs []) (bs []) (bs []) (nrows r) true n2 (nrows r_4) r_6 (iAdd .i64 n5 1) s (kCat s7 s8) n2 s7 s8 n9 n10 s11 (nrows r_10) (nrows []) (bs []) (bs []) (bs []) (bs []) (bs []) n9 s12 r_2 (subR r_2 0 (iSub .i64 (nrows r_2) 1)) (nrows (subR r_2 0 (iSub .i64 (nrows r_2) 1))) 0) none) none) none) none)) (some (.tup [.agg (c_billiss false 0 [] [] 0 (bs []) (bs [])), .agg (c_issiisllsssss 0 (bs []) (bs []) 0 0 (bs []) [] [] (bs []) (bs []) (bs []) (bs []) (bs [])), .bool false], []))) (some (.tup [.agg (c_billiss false 0 [] [] 0 (bs []) (bs [])), .agg (c_issiisllsssss 0 (bs []) (bs []) 0 0 (bs []) [] [] (bs []) (bs []) (bs []) (bs []) (bs [])), .bool false], []))) (some (.tup [.agg (c_billiss false 0 [] [] 0 (bs []) (bs [])), .agg (c_issiisllsssss 0 (bs []) (bs []) 0 0 (bs []) [] [] (bs []) (bs []) (bs []) (bs []) (bs [])), .bool false], []))) (some (.tup [.agg (c_billiss false 0 [] [] 0 (bs []) (bs [])), .agg (c_issiisllsssss 0 (bs []) (bs []) 0 0 (bs []) [] [] (bs []) (bs []) (bs []) (bs []) (bs [])), .bool false], []))) (some (.tup [.agg (c_billiss false 0 [] [] 0 (bs []) (bs [])), .agg (c_issiisllsssss 0 (bs []) (bs []) 0 0 (bs []) [] [] (bs []) (bs []) (bs []) (bs []) (bs [])), .bool false], []))) (some (.tup [.agg (c_billiss false 0 [] [] 0 (bs []) (bs [])), .agg (c_issiisllsssss 0 (bs []) (bs []) 0 0 (bs []) [] [] (bs []) (bs []) (bs []) (bs []) (bs [])), .bool false], []))) (some (.tup [.agg (c_billiss false 0 [] [] 0 (bs []) (bs [])), .agg (c_issiisllsssss 0 (bs []) (bs []) 0 0 (bs []) [] [] (bs []) (bs []) (bs []) (bs []) (bs [])), .bool false], []))) (some (.tup [.agg (c_billiss false 0 [] [] 0 (bs []) (bs [])), .agg (c_issiisllsssss 0 (bs []) (bs []) 0 0 (bs []) [] [] (bs []) (bs []) (bs []) (bs []) (bs [])), .bool false], []))) (some (.tup [.agg (c_billiss false 0 [] [] 0 (bs []) (bs [])), .agg (c_issiisllsssss 0 (bs []) (bs []) 0 0 (bs []) [] [] (bs []) (bs []) (bs []) (bs []) (bs [])), .bool false], []))
theorem g_148 (D : Nat) (b1 : Bool) (n2 : Int) (r3 r4 : List Row) (n5 : Int) (s6 s7 s8 : ByteArray) (n9 n10 : Int) (s11 s12 : ByteArray) : G_148 (ev E LL D) b1 n2 r3 r4 n5 s6 s7 s8 n9 n10 s11 s12 = ev E LL (D + 1) 148 [.agg [.bool b1, .int .i64 n2, .sl r3, .sl r4, .int .i64 n5, .str s6, .str s7], .str s8, .int .i64 n9, .int .i64 n10, .str s11, .str s12] [] := by
  rw [eq_148]
  unfold G_148
  simp only [kCat_eq, p_148_10]
def B_149_6 (rec : Run) (self : List Row → Int → List Row → List Row → Int → Int → Option Res) (r0 : List Row) (i1 : Int) (r2 r3 : List Row) (i4 i5 : Int) : Option Res := br (iLt i5 i4) (bnd (rowZ 1 r3 i5) fun row => bnd (gStr (cellAt row 0)) fun s => br (iEq i1 (nrows r0)) (bnd (rowZ 1 r0 i5) fun x => br (iEq i1 (nrows r0)) (bnd (rowAt r0 i5) fun row => bnd (gStr (cellAt row 0)) fun s_1 => br (bNot (kEq s s_1)) (bnd (rec 157 (c_li r2 i5) []) fun r => bnd (gBool r.1) fun b => br (bNot b) (some (.bool false, [])) (self r0 i1 r2 r3 i4 (iAdd .i64 i5 1))) (self r0 i1 r2 r3 i4 (iAdd .i64 i5 1))) none) none) (some (.bool true, []))
def P_149_6 (rec : Run) (n : Nat) : List Row → Int → List Row → List Row → Int → Int → Option Res := Nat.rec (motive := fun _ => List Row → Int → List Row → List Row → Int → Int → Option Res) (fun _ _ _ _ _ _ => none) (fun _ self => B_149_6 rec self) n
theorem p_149_6 (D : Nat) : ∀ (n : Nat) (r0 : List Row) (i1 : Int) (r2 r3 : List Row) (i4 i5 : Int), P_149_6 (ev E LL D) n r0 i1 r2 r3 i4 i5 = LP_149_6 LL D n  r0 i1 r2 r3 i4 i5
  | 0, _, _, _, _, _, _ => by unfold LP_149_6 lp loopN; rfl
  | n + 1, r0, i1, r2, r3, i4, i5 => by
    have ih : P_149_6 (ev E LL D) n = fun r0 i1 r2 r3 i4 i5 => LP_149_6 LL D n  r0 i1 r2 r3 i4 i5 := by funext r0 i1 r2 r3 i4 i5; exact p_149_6 D n r0 i1 r2 r3 i4 i5
    show B_149_6 (ev E LL D) (P_149_6 (ev E LL D) n) r0 i1 r2 r3 i4 i5 = _
    rw [ih, LP_149_6_succ]
    unfold B_149_6
    simp only [kEq_eq]
def G_149 (rec : Run) (b1 : Bool) (n2 : Int) (r3 r4 : List Row) (n5 : Int) (s6 s7 : ByteArray) (n8 : Int) (s9 s10 : ByteArray) (n11 n12 : Int) (s13 : ByteArray) (r14 r15 : List Row) (s16 s17 s18 s19 s20 : ByteArray) : Option Res := br (bNot (bNot b1)) (br (bNot (bNot (kEq s9 s7))) (br (bNot (iLe 12 n5)) (br (bNot (iEq n8 n2)) (bnd (rec 64 [.agg [.sl r3], .int .i64 n8] []) fun r => bnd (gBool r.1) fun b => br (bNot (bNot b)) (bnd (rec 176 [.agg [.sl r3], .int .i64 n11, .int .i64 n12] []) fun r => bnd (gBool r.1) fun b => br (bNot b) (some (.bool false, [])) (bnd (rec 177 [.agg [.sl r3], .int .i64 n11, .int .i64 n12, .str s13] []) fun r => bnd (gAggN 1 r.1) fun cs => bnd (gOwn (cellAt cs 0)) fun r => bnd (rec 60 [.int .i64 n8] []) fun r_1 => bnd (gSl r_1.1) fun r_2 => P_149_6 rec LL r (nrows r) r_2 r14 (nrows r14) 0)) (some (.bool false, []))) (some (.bool false, []))) (some (.bool false, []))) (some (.bool false, []))) (some (.bool false, []))
theorem g_149 (D : Nat) (b1 : Bool) (n2 : Int) (r3 r4 : List Row) (n5 : Int) (s6 s7 : ByteArray) (n8 : Int) (s9 s10 : ByteArray) (n11 n12 : Int) (s13 : ByteArray) (r14 r15 : List Row) (s16 s17 s18 s19 s20 : ByteArray) : G_149 (ev E LL D) b1 n2 r3 r4 n5 s6 s7 n8 s9 s10 n11 n12 s13 r14 r15 s16 s17 s18 s19 s20 = ev E LL (D + 1) 149 [.agg [.bool b1, .int .i64 n2, .sl r3, .sl r4, .int .i64 n5, .str s6, .str s7], .agg [.int .i64 n8, .str s9, .str s10, .int .i64 n11, .int .i64 n12, .str s13, .sl r14, .sl r15, .str s16, .str s17, .str s18, .str s19, .str s20]] [] := by
  rw [eq_149]
  unfold G_149
  simp only [kEq_eq, p_149_6]
def B_150102_2 (rec : Run) (self : List Row → Int → Int → Option Res) (r0 : List Row) (i1 i2 : Int) : Option Res := br (iLt i2 i1) (bnd (rowZ 2 r0 i2) fun row => q0_ss row fun s s_1 => bnd (rec 102 [.agg (c_ss s s_1)] []) fun r => bnd (gBool r.1) fun b => br b (some (.int .i64 i2, [])) (self r0 i1 (iAdd .i64 i2 1))) (some (.int .i64 (-1), []))
def P_150102_2 (rec : Run) (n : Nat) : List Row → Int → Int → Option Res := Nat.rec (motive := fun _ => List Row → Int → Int → Option Res) (fun _ _ _ => none) (fun _ self => B_150102_2 rec self) n
theorem p_150102_2 (D : Nat) : ∀ (n : Nat) (r0 : List Row) (i1 i2 : Int), P_150102_2 (ev E LL D) n r0 i1 i2 = LP_150102_2 LL D n  r0 i1 i2
  | 0, _, _, _ => by unfold LP_150102_2 lp loopN; rfl
  | n + 1, r0, i1, i2 => by
    have ih : P_150102_2 (ev E LL D) n = fun r0 i1 i2 => LP_150102_2 LL D n  r0 i1 i2 := by funext r0 i1 i2; exact p_150102_2 D n r0 i1 i2
    show B_150102_2 (ev E LL D) (P_150102_2 (ev E LL D) n) r0 i1 i2 = _
    rw [ih, LP_150102_2_succ]
    unfold B_150102_2
    rfl
def G_150102 (rec : Run) (r1 : List Row) : Option Res := P_150102_2 rec LL r1 (nrows r1) 0
theorem g_150102 (D : Nat) (r1 : List Row) : G_150102 (ev E LL D) r1 = ev E LL (D + 1) 150 [.sl r1, .fn 102 []] [] := by
  rw [eq_150102]
  unfold G_150102
  simp only [p_150102_2]
def B_150151_2 (rec : Run) (self : Bool → Int → List Row → List Row → Int → ByteArray → ByteArray → List Row → Int → Int → Option Res) (b0 : Bool) (i1 : Int) (r2 r3 : List Row) (i4 : Int) (s5 s6 : ByteArray) (r7 : List Row) (i8 i9 : Int) : Option Res := br (iLt i9 i8) (bnd (rowZ 2 r7 i9) fun row => q0_ss row fun s s_1 => bnd (rec 151 [.agg (c_ss s s_1), .ptr (.imp 0) 0] [.cells (c_billiss b0 i1 r2 r3 i4 s5 s6)]) fun r => bnd (gCellsN 7 (hdO r.2)) fun ns => q0_billiss ns fun b n_1 s s_2 n_2 s_3 s_4 => bnd (gBool r.1) fun b_1 => br b_1 (some (.int .i64 i9, [.cells (c_billiss b n_1 s s_2 n_2 s_3 s_4)])) (self b n_1 s s_2 n_2 s_3 s_4 r7 i8 (iAdd .i64 i9 1))) (some (.int .i64 (-1), [.cells (c_billiss b0 i1 r2 r3 i4 s5 s6)]))
def P_150151_2 (rec : Run) (n : Nat) : Bool → Int → List Row → List Row → Int → ByteArray → ByteArray → List Row → Int → Int → Option Res := Nat.rec (motive := fun _ => Bool → Int → List Row → List Row → Int → ByteArray → ByteArray → List Row → Int → Int → Option Res) (fun _ _ _ _ _ _ _ _ _ _ => none) (fun _ self => B_150151_2 rec self) n
theorem p_150151_2 (D : Nat) : ∀ (n : Nat) (b0 : Bool) (i1 : Int) (r2 r3 : List Row) (i4 : Int) (s5 s6 : ByteArray) (r7 : List Row) (i8 i9 : Int), P_150151_2 (ev E LL D) n b0 i1 r2 r3 i4 s5 s6 r7 i8 i9 = LP_150151_2 LL D n  b0 i1 r2 r3 i4 s5 s6 r7 i8 i9
  | 0, _, _, _, _, _, _, _, _, _, _ => by unfold LP_150151_2 lp loopN; rfl
  | n + 1, b0, i1, r2, r3, i4, s5, s6, r7, i8, i9 => by
    have ih : P_150151_2 (ev E LL D) n = fun b0 i1 r2 r3 i4 s5 s6 r7 i8 i9 => LP_150151_2 LL D n  b0 i1 r2 r3 i4 s5 s6 r7 i8 i9 := by funext b0 i1 r2 r3 i4 s5 s6 r7 i8 i9; exact p_150151_2 D n b0 i1 r2 r3 i4 s5 s6 r7 i8 i9
    show B_150151_2 (ev E LL D) (P_150151_2 (ev E LL D) n) b0 i1 r2 r3 i4 s5 s6 r7 i8 i9 = _
    rw [ih, LP_150151_2_succ]
    unfold B_150151_2
    rfl
def G_150151 (rec : Run) (r1 : List Row) (b2 : Bool) (n3 : Int) (r4 r5 : List Row) (n6 : Int) (s7 s8 : ByteArray) : Option Res := P_150151_2 rec LL b2 n3 r4 r5 n6 s7 s8 r1 (nrows r1) 0
theorem g_150151 (D : Nat) (r1 : List Row) (b2 : Bool) (n3 : Int) (r4 r5 : List Row) (n6 : Int) (s7 s8 : ByteArray) : G_150151 (ev E LL D) r1 b2 n3 r4 r5 n6 s7 s8 = ev E LL (D + 1) 150 [.sl r1, .fn 151 [.ptr (.imp 0) 0]] [.cells [.bool b2, .int .i64 n3, .sl r4, .sl r5, .int .i64 n6, .str s7, .str s8]] := by
  rw [eq_150151]
  unfold G_150151
  simp only [p_150151_2]
def G_151 (rec : Run) (s1 s2 : ByteArray) (b3 : Bool) (n4 : Int) (r5 r6 : List Row) (n7 : Int) (s8 s9 : ByteArray) : Option Res := bnd (rec 152 [.sl r6, .fn 153 [.ptr (.imp 0) 0]] [.cells (c_ss s1 s2)]) fun r => bnd (gCellsN 2 (hdO r.2)) fun ns => bnd (gStr (cellAt ns 0)) fun s => bnd (gStr (cellAt ns 1)) fun s => bnd (gBool r.1) fun b => some (.bool b, [.cells (c_billiss b3 n4 r5 r6 n7 s8 s9)])
theorem g_151 (D : Nat) (s1 s2 : ByteArray) (b3 : Bool) (n4 : Int) (r5 r6 : List Row) (n7 : Int) (s8 s9 : ByteArray) : G_151 (ev E LL D) s1 s2 b3 n4 r5 r6 n7 s8 s9 = ev E LL (D + 1) 151 [.agg [.str s1, .str s2], .ptr (.imp 0) 0] [.cells [.bool b3, .int .i64 n4, .sl r5, .sl r6, .int .i64 n7, .str s8, .str s9]] := by
  rw [eq_151]
  unfold G_151
  rfl
def G_152153 (rec : Run) (r1 : List Row) (s2 s3 : ByteArray) : Option Res := bnd (rec 117 [.sl r1, .fn 153 [.ptr (.imp 0) 0]] [.cells (c_ss s2 s3)]) fun r => bnd (gCellsN 2 (hdO r.2)) fun ns => q0_ss ns fun s s_1 => bnd (gInt .i64 r.1) fun n => some (.bool (iLe 0 n), [.cells (c_ss s s_1)])
theorem g_152153 (D : Nat) (r1 : List Row) (s2 s3 : ByteArray) : G_152153 (ev E LL D) r1 s2 s3 = ev E LL (D + 1) 152 [.sl r1, .fn 153 [.ptr (.imp 0) 0]] [.cells [.str s2, .str s3]] := by
  rw [eq_152153]
  unfold G_152153
  rfl
end Kw
