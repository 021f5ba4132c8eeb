import Derived.Test.YtiogcgalhnjagaaGreatDoorW18
namespace Kw
open Go Go.Proofs
set_option linter.unusedVariables false
set_option linter.unusedSimpArgs false
set_option maxRecDepth 100000
set_option maxHeartbeats 0
def G_152181 (rec : Run) (r1 r2 : List Row) : Option Res := bnd (rec 117 [.sl r1, .fn 181 [.ptr (.imp 0) 0]] [.cells [.sl r2]]) fun r => bnd (gCellsN 1 (hdO r.2)) fun ns => bnd (gSl (cellAt ns 0)) fun s => bnd (gInt .i64 r.1) fun n => some (.bool (iLe 0 n), [.cells [.sl s]])
theorem g_152181 (D : Nat) (r1 r2 : List Row) : G_152181 (ev E LL D) r1 r2 = ev E LL (D + 1) 152 [.sl r1, .fn 181 [.ptr (.imp 0) 0]] [.cells [.sl r2]] := by
  rw [eq_152181]
  unfold G_152181
  rfl
def G_153 (rec : Run) (n1 : Int) (s2 s3 s4 : ByteArray) : Option Res := bnd (rec 66 [.str s2] []) fun r => bnd (gStr r.1) fun s => some (.bool (kEq s s3), [.cells (c_ss s3 s4)])
theorem g_153 (D : Nat) (n1 : Int) (s2 s3 s4 : ByteArray) : G_153 (ev E LL D) n1 s2 s3 s4 = ev E LL (D + 1) 153 [.agg [.int .i64 n1, .str s2], .ptr (.imp 0) 0] [.cells [.str s3, .str s4]] := by
  rw [eq_153]
  unfold G_153
  simp only [kEq_eq]
def G_154 (rec : Run) (n1 : Int) : Option Res := bnd (rec 113 [.int .i64 n1] []) fun r => bnd (gSl r.1) fun r => br (bAnd (iEq (nrows [[.int .i64 n1]]) (nrows [[.int .i64 n1]])) (bAnd (okR 1 [[.int .i64 n1]]) (bAnd (okR 1 r) (fits (nrows [[.int .i64 n1]]) (nrows r) 8)))) (br (iEq (nrows (catR [[.int .i64 n1]] r)) (nrows (catR [[.int .i64 n1]] r))) (some (.sl (catR [[.int .i64 n1]] r), [])) none) none
theorem g_154 (D : Nat) (n1 : Int) : G_154 (ev E LL D) n1 = ev E LL (D + 1) 154 [.int .i64 n1] [] := by
  rw [eq_154]
  unfold G_154
  rfl
def B_155_3 (rec : Run) (self : Int → Int → Option Res) (i0 i1 : Int) : Option Res := br (bNot (iEq i0 i1)) (br (iLt i1 i0) (br (iEq 2 0) none (self (iQuo .i64 (iSub .i64 i0 1) 2) i1)) (br (iEq 2 0) none (self i0 (iQuo .i64 (iSub .i64 i1 1) 2)))) (some (.int .i64 i0, []))
def P_155_3 (rec : Run) (n : Nat) : Int → Int → Option Res := Nat.rec (motive := fun _ => Int → Int → Option Res) (fun _ _ => none) (fun _ self => B_155_3 rec self) n
theorem p_155_3 (D : Nat) : ∀ (n : Nat) (i0 i1 : Int), P_155_3 (ev E LL D) n i0 i1 = LP_155_3 LL D n  i0 i1
  | 0, _, _ => by unfold LP_155_3 lp loopN; rfl
  | n + 1, i0, i1 => by
    have ih : P_155_3 (ev E LL D) n = fun i0 i1 => LP_155_3 LL D n  i0 i1 := by funext i0 i1; exact p_155_3 D n i0 i1
    show B_155_3 (ev E LL D) (P_155_3 (ev E LL D) n) i0 i1 = _
    rw [ih, LP_155_3_succ]
    unfold B_155_3
    rfl
def G_155 (rec : Run) (n1 n2 : Int) : Option Res := bnd (rec 167 [.int .i64 n1] []) fun r => bnd (gBool r.1) fun b => br (bNot (bNot b)) (bnd (rec 167 [.int .i64 n2] []) fun r => bnd (gBool r.1) fun b => br (bNot b) (some (.int .i64 (-1), [])) (P_155_3 rec LL n1 n2)) (some (.int .i64 (-1), []))
theorem g_155 (D : Nat) (n1 n2 : Int) : G_155 (ev E LL D) n1 n2 = ev E LL (D + 1) 155 [.int .i64 n1, .int .i64 n2] [] := by
  rw [eq_155]
  unfold G_155
  simp only [p_155_3]
def G_156 (rec : Run) (r1 r2 : List Row) : Option Res := bnd (rec 152 [.sl r2, .fn 181 [.ptr (.imp 0) 0]] [.cells [.sl r1]]) fun r => bnd (gCellsN 1 (hdO r.2)) fun ns => bnd (gSl (cellAt ns 0)) fun s => bnd (gBool r.1) fun b => some (.bool (bNot b), [])
theorem g_156 (D : Nat) (r1 r2 : List Row) : G_156 (ev E LL D) r1 r2 = ev E LL (D + 1) 156 [.sl r1, .sl r2] [] := by
  rw [eq_156]
  unfold G_156
  rfl
def G_157 (rec : Run) (r1 : List Row) (n2 : Int) : Option Res := bnd (rec 180 (c_li r1 n2) []) fun r => bnd (gInt .i64 r.1) fun n => some (.bool (iLe 0 n), [])
theorem g_157 (D : Nat) (r1 : List Row) (n2 : Int) : G_157 (ev E LL D) r1 n2 = ev E LL (D + 1) 157 [.sl r1, .int .i64 n2] [] := by
  rw [eq_157]
  unfold G_157
  rfl
def G_158 (rec : Run) (s1 s2 : ByteArray) : Option Res := br (iEq (nrows [[.str s1], [.str s2]]) (nrows [[.str s1], [.str s2]])) (bnd (rec 119 (c_sl (bs [101]) [[.str s1], [.str s2]]) []) fun r => bnd (gStr r.1) fun s => some (.str s, [])) none
theorem g_158 (D : Nat) (s1 s2 : ByteArray) : G_158 (ev E LL D) s1 s2 = ev E LL (D + 1) 158 [.str s1, .str s2] [] := by
  rw [eq_158]
  unfold G_158
  rfl
def G_159 (rec : Run) (s1 : ByteArray) : Option Res := br (iEq (nrows [[.str s1]]) (nrows [[.str s1]])) (bnd (rec 119 (c_sl (bs [110]) [[.str s1]]) []) fun r => bnd (gStr r.1) fun s => some (.str s, [])) none
theorem g_159 (D : Nat) (s1 : ByteArray) : G_159 (ev E LL D) s1 = ev E LL (D + 1) 159 [.str s1] [] := by
  rw [eq_159]
  unfold G_159
  rfl
def G_160 (rec : Run) (n1 : Int) (s2 s3 : ByteArray) (n4 : Int) (s5 s6 : ByteArray) (n7 n8 : Int) (s9 : ByteArray) (r10 r11 : List Row) (s12 s13 s14 s15 s16 : ByteArray) : Option Res := bnd (rec 32 [.agg (c_issiisllsssss n4 s5 s6 n7 n8 s9 r10 r11 s12 s13 s14 s15 s16)] []) fun r => bnd (gBool r.1) fun b => br (bNot (bNot b)) (br (bNot (iLt n7 0)) (br (bNot (bNot (iEq n7 n1))) (bnd (rec 66 [.str s2] []) fun r => bnd (gStr r.1) fun s => br (bNot (bNot (kEq s s9))) (bnd (rec 66 [.str s3] []) fun r => bnd (gStr r.1) fun s => br (bNot (bNot (kEq s s12))) (bnd (rec 56 [.str s16] []) fun r => bnd (gBool r.1) fun b => br (bNot b) (some (.tup [.agg (c_billiss false 0 [] [] 0 (bs []) (bs [])), .bool false], [])) (bnd (rec 46 [.sl r10] []) fun r => bnd (gOwn r.1) fun r => bnd (rec 182 (c_ss s5 (bs [59])) []) fun r_1 => bnd (gInt .i64 r_1.1) fun n => br (fits (sLen s5) (sLen s6) 1) (bnd (rec 112 [.int .i64 n1] []) fun r_2 => bnd (gInt .i64 r_2.1) fun n_1 => bnd (rec 112 [.int .i64 n1] []) fun r_3 => bnd (gInt .i64 r_3.1) fun n_2 => bnd (rec 112 [.int .i64 n4] []) fun r_4 => bnd (gInt .i64 r_4.1) fun n_3 => bnd (rec 155 (c_ii n_2 n_3) []) fun r_5 => bnd (gInt .i64 r_5.1) fun n_4 => bnd (rec 154 [.int .i64 n_4] []) fun r_6 => bnd (gSl r_6.1) fun r_7 => bnd (rec 59 (c_ls r_7 s16) []) fun r_8 => bnd (gSl r_8.1) fun r_9 => br (bAnd (iEq (nrows [(c_is n_1 s2)]) (nrows [(c_is n_1 s2)])) (bAnd (okR 2 [(c_is n_1 s2)]) (bAnd (okR 2 r_9) (fits (nrows [(c_is n_1 s2)]) (nrows r_9) 24)))) (br (iEq (nrows (catR [(c_is n_1 s2)] r_9)) (nrows (catR [(c_is n_1 s2)] r_9))) (bnd (rec 146 [.sl (catR [(c_is n_1 s2)] r_9)] []) fun r_10 => bnd (gOwn r_10.1) fun r_11 => br (iEq (nrows r) (nrows r)) (br (iEq (nrows r_11) (nrows r_11)) (bnd (rec 22 [.agg (c_billiss true n1 r r_11 (iAdd .i64 n 1) s14 (kCat s5 s6))] []) fun r_12 => bnd (gBool r_12.1) fun b => br (bNot b) (some (.tup [.agg (c_billiss false 0 [] [] 0 (bs []) (bs [])), .bool false], [])) (br (iEq (nrows r) (nrows r)) (br (iEq (nrows r_11) (nrows r_11)) (some (.tup [.agg (c_billiss true n1 r r_11 (iAdd .i64 n 1) s14 (kCat s5 s6)), .bool true], [])) none) none)) none) none) none) none) none)) (some (.tup [.agg (c_billiss false 0 [] [] 0 (bs []) (bs [])), .bool false], []))) (some (.tup [.agg (c_billiss false 0 [] [] 0 (bs []) (bs [])), .bool false], []))) (some (.tup [.agg (c_billiss false 0 [] [] 0 (bs []) (bs [])), .bool false], []))) (some (.tup [.agg (c_billiss false 0 [] [] 0 (bs []) (bs [])), .bool false], []))) (some (.tup [.agg (c_billiss false 0 [] [] 0 (bs []) (bs [])), .bool false], []))
theorem g_160 (D : Nat) (n1 : Int) (s2 s3 : ByteArray) (n4 : Int) (s5 s6 : ByteArray) (n7 n8 : Int) (s9 : ByteArray) (r10 r11 : List Row) (s12 s13 s14 s15 s16 : ByteArray) : G_160 (ev E LL D) n1 s2 s3 n4 s5 s6 n7 n8 s9 r10 r11 s12 s13 s14 s15 s16 = ev E LL (D + 1) 160 [.int .i64 n1, .str s2, .str s3, .agg [.int .i64 n4, .str s5, .str s6, .int .i64 n7, .int .i64 n8, .str s9, .sl r10, .sl r11, .str s12, .str s13, .str s14, .str s15, .str s16]] [] := by
  rw [eq_160]
  unfold G_160
  simp only [kCat_eq, kEq_eq]
def G_164 (rec : Run) (s1 s2 : ByteArray) : Option Res := br (iLe (sLen s2) (sLen s1)) (br (bAnd (iLe 0 0) (bAnd (iLe 0 (sLen s2)) (iLe (sLen s2) (sLen s1)))) (some (.bool (kEq (kSub s1 0 (sLen s2)) s2), [])) none) (some (.bool false, []))
theorem g_164 (D : Nat) (s1 s2 : ByteArray) : G_164 (ev E LL D) s1 s2 = ev E LL (D + 1) 164 [.str s1, .str s2] [] := by
  rw [eq_164]
  unfold G_164
  simp only [kSub_eq, kEq_eq]
def G_165 (rec : Run) (s1 s2 : ByteArray) : Option Res := bnd (rec 164 (c_ss s1 s2) []) fun r => bnd (gBool r.1) fun b => br (bNot b) (some (.tup (c_sb s1 false), [])) (br (bAnd (iLe 0 (sLen s2)) (bAnd (iLe (sLen s2) (sLen s1)) (iLe (sLen s1) (sLen s1)))) (some (.tup (c_sb (kSub s1 (sLen s2) (sLen s1)) true), [])) none)
theorem g_165 (D : Nat) (s1 s2 : ByteArray) : G_165 (ev E LL D) s1 s2 = ev E LL (D + 1) 165 [.str s1, .str s2] [] := by
  rw [eq_165]
  unfold G_165
  simp only [kSub_eq]
def G_167 (rec : Run) (n1 : Int) : Option Res := bnd (rec 25 (c_iii n1 0 14) []) fun r => bnd (gBool r.1) fun b => some (.bool b, [])
theorem g_167 (D : Nat) (n1 : Int) : G_167 (ev E LL D) n1 = ev E LL (D + 1) 167 [.int .i64 n1] [] := by
  rw [eq_167]
  unfold G_167
  rfl
def G_170 (rec : Run) (s1 : ByteArray) : Option Res := br (bNot (iEq (sLen s1) 0)) (bnd (sAt s1 0) fun b => bnd (rec 18 [.int .i64 (iSub .i64 (iWrap .i64 b) 65)] []) fun r => bnd (gBool r.1) fun b => br (bNot b) (some (.int .i64 (-1), [])) (bnd (sAt s1 0) fun b => some (.int .i64 (iSub .i64 (iWrap .i64 b) 65), []))) (some (.int .i64 (-1), []))
theorem g_170 (D : Nat) (s1 : ByteArray) : G_170 (ev E LL D) s1 = ev E LL (D + 1) 170 [.str s1] [] := by
  rw [eq_170]
  unfold G_170
  rfl
def B_171_2 (rec : Run) (self : ByteArray → Int → Option Res) (s0 : ByteArray) (i1 : Int) : Option Res := br (iLt i1 (sLen s0)) (br (iLt i1 2) (bnd (sAt s0 i1) fun b => br (iLe 48 b) (bnd (sAt s0 i1) fun b => br (iLe b 57) (self s0 (iAdd .i64 i1 1)) (br (bAnd (iLe 0 0) (bAnd (iLe 0 i1) (iLe i1 (sLen s0)))) (bnd (rec 194 [.str (kSub s0 0 i1)] []) fun r => bnd (gTupN 2 r.1) fun vs => bnd (gInt .i64 (cellAt vs 0)) fun n => bnd (gIf (cellAt vs 1)) fun b => br (bNot (bNot b)) (bnd (sAt s0 0) fun b => br (iEq b 48) (some (.tup (c_is 0 s0), [])) (br (bAnd (iLe 0 i1) (bAnd (iLe i1 (sLen s0)) (iLe (sLen s0) (sLen s0)))) (some (.tup (c_is n (kSub s0 i1 (sLen s0))), [])) none)) (some (.tup (c_is 0 s0), []))) none)) (br (bAnd (iLe 0 0) (bAnd (iLe 0 i1) (iLe i1 (sLen s0)))) (bnd (rec 194 [.str (kSub s0 0 i1)] []) fun r => bnd (gTupN 2 r.1) fun vs => bnd (gInt .i64 (cellAt vs 0)) fun n => bnd (gIf (cellAt vs 1)) fun b => br (bNot (bNot b)) (bnd (sAt s0 0) fun b => br (iEq b 48) (some (.tup (c_is 0 s0), [])) (br (bAnd (iLe 0 i1) (bAnd (iLe i1 (sLen s0)) (iLe (sLen s0) (sLen s0)))) (some (.tup (c_is n (kSub s0 i1 (sLen s0))), [])) none)) (some (.tup (c_is 0 s0), []))) none)) (br (bAnd (iLe 0 0) (bAnd (iLe 0 i1) (iLe i1 (sLen s0)))) (bnd (rec 194 [.str (kSub s0 0 i1)] []) fun r => bnd (gTupN 2 r.1) fun vs => bnd (gInt .i64 (cellAt vs 0)) fun n => bnd (gIf (cellAt vs 1)) fun b => br (bNot (bNot b)) (bnd (sAt s0 0) fun b => br (iEq b 48) (some (.tup (c_is 0 s0), [])) (br (bAnd (iLe 0 i1) (bAnd (iLe i1 (sLen s0)) (iLe (sLen s0) (sLen s0)))) (some (.tup (c_is n (kSub s0 i1 (sLen s0))), [])) none)) (some (.tup (c_is 0 s0), []))) none)) (br (bAnd (iLe 0 0) (bAnd (iLe 0 i1) (iLe i1 (sLen s0)))) (bnd (rec 194 [.str (kSub s0 0 i1)] []) fun r => bnd (gTupN 2 r.1) fun vs => bnd (gInt .i64 (cellAt vs 0)) fun n => bnd (gIf (cellAt vs 1)) fun b => br (bNot (bNot b)) (bnd (sAt s0 0) fun b => br (iEq b 48) (some (.tup (c_is 0 s0), [])) (br (bAnd (iLe 0 i1) (bAnd (iLe i1 (sLen s0)) (iLe (sLen s0) (sLen s0)))) (some (.tup (c_is n (kSub s0 i1 (sLen s0))), [])) none)) (some (.tup (c_is 0 s0), []))) none)
def P_171_2 (rec : Run) (n : Nat) : ByteArray → Int → Option Res := Nat.rec (motive := fun _ => ByteArray → Int → Option Res) (fun _ _ => none) (fun _ self => B_171_2 rec self) n
theorem p_171_2 (D : Nat) : ∀ (n : Nat) (s0 : ByteArray) (i1 : Int), P_171_2 (ev E LL D) n s0 i1 = LP_171_2 LL D n  s0 i1
  | 0, _, _ => by unfold LP_171_2 lp loopN; rfl
  | n + 1, s0, i1 => by
    have ih : P_171_2 (ev E LL D) n = fun s0 i1 => LP_171_2 LL D n  s0 i1 := by funext s0 i1; exact p_171_2 D n s0 i1
    show B_171_2 (ev E LL D) (P_171_2 (ev E LL D) n) s0 i1 = _
    rw [ih, LP_171_2_succ]
    unfold B_171_2
    simp only [kSub_eq]
def G_171 (rec : Run) (s1 : ByteArray) : Option Res := P_171_2 rec LL s1 0
theorem g_171 (D : Nat) (s1 : ByteArray) : G_171 (ev E LL D) s1 = ev E LL (D + 1) 171 [.str s1] [] := by
  rw [eq_171]
  unfold G_171
  simp only [p_171_2]
def G_176 (rec : Run) (r1 : List Row) (n2 n3 : Int) : Option Res := br (bNot (iLt n3 0)) (bnd (rec 64 [.agg [.sl r1], .int .i64 n3] []) fun r => bnd (gBool r.1) fun b => br b (br (bNot (iLt n2 0)) (bnd (rec 64 [.agg [.sl r1], .int .i64 n2] []) fun r => bnd (gBool r.1) fun b => br (bNot (bNot b)) (some (.bool (iEq n2 n3), [])) (some (.bool true, []))) (some (.bool true, []))) (some (.bool false, []))) (br (bNot (iLt n2 0)) (bnd (rec 64 [.agg [.sl r1], .int .i64 n2] []) fun r => bnd (gBool r.1) fun b => br (bNot (bNot b)) (some (.bool (iEq n2 n3), [])) (some (.bool true, []))) (some (.bool true, [])))
theorem g_176 (D : Nat) (r1 : List Row) (n2 n3 : Int) : G_176 (ev E LL D) r1 n2 n3 = ev E LL (D + 1) 176 [.agg [.sl r1], .int .i64 n2, .int .i64 n3] [] := by
  rw [eq_176]
  unfold G_176
  rfl
def G_177 (rec : Run) (r1 : List Row) (n2 n3 : Int) (s4 : ByteArray) : Option Res := bnd (rec 110 [.agg [.sl r1]] []) fun r => bnd (gAggN 1 r.1) fun cs => bnd (gOwn (cellAt cs 0)) fun r => br (iLe 0 n3) (br (iEq (nrows r) (nrows r)) (bnd (rec 195 [.agg [.sl r], .int .i64 n3] []) fun r => bnd (gAggN 1 r.1) fun cs => bnd (gOwn (cellAt cs 0)) fun r => br (iLe 0 n2) (br (iEq (nrows r) (nrows r)) (bnd (rec 195 [.agg [.sl r], .int .i64 n2] []) fun r => bnd (gAggN 1 r.1) fun cs => bnd (gOwn (cellAt cs 0)) fun r => bnd (rec 112 [.int .i64 n2] []) fun r_1 => bnd (gInt .i64 r_1.1) fun n => br (iEq (nrows r) (nrows r)) (bnd (rowZ 1 r n) fun x => br (iEq (nrows r) (nrows r)) (bnd (rowAt r n) fun row => br (iLe 1 (rowLen row)) (br (iEq (nrows r) (nrows (setR r n (setRow row 0 [.str s4])))) (some (.agg [.own (setR r n (setRow row 0 [.str s4]))], [])) none) none) none) none) none) (br (iEq (nrows r) (nrows r)) (some (.agg [.own r], [])) none)) none) (br (iLe 0 n2) (br (iEq (nrows r) (nrows r)) (bnd (rec 195 [.agg [.sl r], .int .i64 n2] []) fun r => bnd (gAggN 1 r.1) fun cs => bnd (gOwn (cellAt cs 0)) fun r => bnd (rec 112 [.int .i64 n2] []) fun r_1 => bnd (gInt .i64 r_1.1) fun n => br (iEq (nrows r) (nrows r)) (bnd (rowZ 1 r n) fun x => br (iEq (nrows r) (nrows r)) (bnd (rowAt r n) fun row => br (iLe 1 (rowLen row)) (br (iEq (nrows r) (nrows (setR r n (setRow row 0 [.str s4])))) (some (.agg [.own (setR r n (setRow row 0 [.str s4]))], [])) none) none) none) none) none) (br (iEq (nrows r) (nrows r)) (some (.agg [.own r], [])) none))
theorem g_177 (D : Nat) (r1 : List Row) (n2 n3 : Int) (s4 : ByteArray) : G_177 (ev E LL D) r1 n2 n3 s4 = ev E LL (D + 1) 177 [.agg [.sl r1], .int .i64 n2, .int .i64 n3, .str s4] [] := by
  rw [eq_177]
  unfold G_177
  rfl
def G_178 (rec : Run) (r1 : List Row) (n2 : Int) : Option Res := bnd (rowZ 1 r1 n2) fun row => bnd (gStr (cellAt row 0)) fun s => br (bNot (kEq s (bs []))) (br (iEq (nrows [[.int .i64 n2]]) (nrows [[.int .i64 n2]])) (some (.own [[.int .i64 n2]], [])) none) (br (iLe 7 n2) (some (.own [], [])) (bnd (rec 178 [.agg [.sl r1], .int .i64 (iAdd .i64 (iMul .i64 2 n2) 1)] []) fun r => bnd (gOwn r.1) fun r => bnd (rec 178 [.agg [.sl r1], .int .i64 (iAdd .i64 (iMul .i64 2 n2) 2)] []) fun r_1 => bnd (gOwn r_1.1) fun r_2 => br (iEq (nrows r_2) (nrows r_2)) (br (bAnd (iEq (nrows r) (nrows r)) (bAnd (okR 1 r) (bAnd (okR 1 r_2) (fits (nrows r) (nrows r_2) 8)))) (br (iEq (nrows (catR r r_2)) (nrows (catR r r_2))) (some (.own (catR r r_2), [])) none) none) none))
theorem g_178 (D : Nat) (r1 : List Row) (n2 : Int) : G_178 (ev E LL D) r1 n2 = ev E LL (D + 1) 178 [.agg [.sl r1], .int .i64 n2] [] := by
  rw [eq_178]
  unfold G_178
  simp only [kEq_eq]
def G_179 (rec : Run) (n1 : Int) : Option Res := bnd (rec 167 [.int .i64 n1] []) fun r => bnd (gBool r.1) fun b => br (bNot (bNot b)) (br (iEq n1 0) (some (.int .i64 (-1), [])) (br (iEq 2 0) none (br (iEq (iRem n1 2) 1) (some (.int .i64 (iAdd .i64 n1 1), [])) (some (.int .i64 (iSub .i64 n1 1), []))))) (some (.int .i64 (-1), []))
theorem g_179 (D : Nat) (n1 : Int) : G_179 (ev E LL D) n1 = ev E LL (D + 1) 179 [.int .i64 n1] [] := by
  rw [eq_179]
  unfold G_179
  rfl
def B_180_2 (rec : Run) (self : List Row → Int → Int → Int → Option Res) (r0 : List Row) (i1 i2 i3 : Int) : Option Res := br (iLt i3 i2) (bnd (rowZ 1 r0 i3) fun row => bnd (gInt .i64 (cellAt row 0)) fun n_1 => br (iEq i1 n_1) (some (.int .i64 i3, [])) (self r0 i1 i2 (iAdd .i64 i3 1))) (some (.int .i64 (-1), []))
def P_180_2 (rec : Run) (n : Nat) : List Row → Int → Int → Int → Option Res := Nat.rec (motive := fun _ => List Row → Int → Int → Int → Option Res) (fun _ _ _ _ => none) (fun _ self => B_180_2 rec self) n
theorem p_180_2 (D : Nat) : ∀ (n : Nat) (r0 : List Row) (i1 i2 i3 : Int), P_180_2 (ev E LL D) n r0 i1 i2 i3 = LP_180_2 LL D n  r0 i1 i2 i3
  | 0, _, _, _, _ => by unfold LP_180_2 lp loopN; rfl
  | n + 1, r0, i1, i2, i3 => by
    have ih : P_180_2 (ev E LL D) n = fun r0 i1 i2 i3 => LP_180_2 LL D n  r0 i1 i2 i3 := by funext r0 i1 i2 i3; exact p_180_2 D n r0 i1 i2 i3
    show B_180_2 (ev E LL D) (P_180_2 (ev E LL D) n) r0 i1 i2 i3 = _
    rw [ih, LP_180_2_succ]
    unfold B_180_2
    rfl
def G_180 (rec : Run) (r1 : List Row) (n2 : Int) : Option Res := P_180_2 rec LL r1 n2 (nrows r1) 0
theorem g_180 (D : Nat) (r1 : List Row) (n2 : Int) : G_180 (ev E LL D) r1 n2 = ev E LL (D + 1) 180 [.sl r1, .int .i64 n2] [] := by
  rw [eq_180]
  unfold G_180
  simp only [p_180_2]
def G_181 (rec : Run) (n1 : Int) (s2 : ByteArray) (r3 : List Row) : Option Res := bnd (rowZ 1 r3 n1) fun row => bnd (gStr (cellAt row 0)) fun s => bnd (rec 66 [.str s2] []) fun r => bnd (gStr r.1) fun s_1 => some (.bool (bNot (kEq s s_1)), [.cells [.sl r3]])
theorem g_181 (D : Nat) (n1 : Int) (s2 : ByteArray) (r3 : List Row) : G_181 (ev E LL D) n1 s2 r3 = ev E LL (D + 1) 181 [.agg [.int .i64 n1, .str s2], .ptr (.imp 0) 0] [.cells [.sl r3]] := by
  rw [eq_181]
  unfold G_181
  simp only [kEq_eq]
def B_195_3 (rec : Run) (self : List Row → List Row → Int → Int → List Row → Int → Int → Option Res) (r0 r1 : List Row) (i2 i3 : Int) (r4 : List Row) (i5 i6 : Int) : Option Res := br (iLt i6 i5) (bnd (rowZ 1 r4 i6) fun row => bnd (gInt .i64 (cellAt row 0)) fun n_1 => br (iEq i3 (nrows r1)) (bnd (rowZ 1 r1 n_1) fun x => br (iEq i3 (nrows r1)) (bnd (rowAt r1 n_1) fun row => br (iLe 1 (rowLen row)) (self r0 (setR r1 n_1 (setRow row 0 [.str (bs [])])) i2 i3 r4 i5 (iAdd .i64 i6 1)) none) none) none) (br (iEq i3 (nrows r1)) (some (.agg [.own r1], [])) none)
def P_195_3 (rec : Run) (n : Nat) : List Row → List Row → Int → Int → List Row → Int → Int → Option Res := Nat.rec (motive := fun _ => List Row → List Row → Int → Int → List Row → Int → Int → Option Res) (fun _ _ _ _ _ _ _ => none) (fun _ self => B_195_3 rec self) n
theorem p_195_3 (D : Nat) : ∀ (n : Nat) (r0 r1 : List Row) (i2 i3 : Int) (r4 : List Row) (i5 i6 : Int), P_195_3 (ev E LL D) n r0 r1 i2 i3 r4 i5 i6 = LP_195_3 LL D n  r0 r1 i2 i3 r4 i5 i6
  | 0, _, _, _, _, _, _, _ => by unfold LP_195_3 lp loopN; rfl
  | n + 1, r0, r1, i2, i3, r4, i5, i6 => by
    have ih : P_195_3 (ev E LL D) n = fun r0 r1 i2 i3 r4 i5 i6 => LP_195_3 LL D n  r0 r1 i2 i3 r4 i5 i6 := by funext r0 r1 i2 i3 r4 i5 i6; exact p_195_3 D n r0 r1 i2 i3 r4 i5 i6
    show B_195_3 (ev E LL D) (P_195_3 (ev E LL D) n) r0 r1 i2 i3 r4 i5 i6 = _
    rw [ih, LP_195_3_succ]
    unfold B_195_3
    rfl
def G_195 (rec : Run) (r1 : List Row) (n2 : Int) : Option Res := bnd (rec 110 [.agg [.sl r1]] []) fun r => bnd (gAggN 1 r.1) fun cs => bnd (gOwn (cellAt cs 0)) fun r => bnd (rec 60 [.int .i64 n2] []) fun r_1 => bnd (gSl r_1.1) fun r_2 => P_195_3 rec LL [] r (nrows []) (nrows r) r_2 (nrows r_2) 0
theorem g_195 (D : Nat) (r1 : List Row) (n2 : Int) : G_195 (ev E LL D) r1 n2 = ev E LL (D + 1) 195 [.agg [.sl r1], .int .i64 n2] [] := by
  rw [eq_195]
  unfold G_195
  simp only [p_195_3]
noncomputable def F_4 (D : Nat) (rec : Run) (a : List MV) (i : List Obj) : Option Res := match a, i with
  | [.sl r1], [] => G_4 rec r1
  | a, i => ev E LL (D + 1) 4 a i
theorem f_4 (D : Nat) (a : List MV) (i : List Obj) : F_4 D (ev E LL D) a i = ev E LL (D + 1) 4 a i := by
  unfold F_4
  split
  · exact g_4 D _
  · rfl
noncomputable def F_5 (D : Nat) (rec : Run) (a : List MV) (i : List Obj) : Option Res := match a, i with
  | [.sl r1], [] => G_5 rec r1
  | a, i => ev E LL (D + 1) 5 a i
theorem f_5 (D : Nat) (a : List MV) (i : List Obj) : F_5 D (ev E LL D) a i = ev E LL (D + 1) 5 a i := by
  unfold F_5
  split
  · exact g_5 D _
  · rfl
noncomputable def F_6 (D : Nat) (rec : Run) (a : List MV) (i : List Obj) : Option Res := match a, i with
  | [.sl r1], [] => G_6 rec r1
  | a, i => ev E LL (D + 1) 6 a i
theorem f_6 (D : Nat) (a : List MV) (i : List Obj) : F_6 D (ev E LL D) a i = ev E LL (D + 1) 6 a i := by
  unfold F_6
  split
  · exact g_6 D _
  · rfl
noncomputable def F_7 (D : Nat) (rec : Run) (a : List MV) (i : List Obj) : Option Res := match a, i with
  | [.int .i64 n1], [] => G_7 rec n1
  | a, i => ev E LL (D + 1) 7 a i
theorem f_7 (D : Nat) (a : List MV) (i : List Obj) : F_7 D (ev E LL D) a i = ev E LL (D + 1) 7 a i := by
  unfold F_7
  split
  · exact g_7 D _
  · rfl
noncomputable def F_8 (D : Nat) (rec : Run) (a : List MV) (i : List Obj) : Option Res := match a, i with
  | [.agg [.sl r1, .sl r2, .sl r3, .sl r4, .sl r5, .sl r6, .sl r7, .sl r8, .sl r9, .sl r10], .agg [.int .i64 n11, .int .i64 n12, .int .i64 n13, .int .i64 n14, .int .i64 n15, .str s16]], [] => G_8 rec r1 r2 r3 r4 r5 r6 r7 r8 r9 r10 n11 n12 n13 n14 n15 s16
  | a, i => ev E LL (D + 1) 8 a i
theorem f_8 (D : Nat) (a : List MV) (i : List Obj) : F_8 D (ev E LL D) a i = ev E LL (D + 1) 8 a i := by
  unfold F_8
  split
  · exact g_8 D _ _ _ _ _ _ _ _ _ _ _ _ _ _ _ _
  · rfl
noncomputable def F_9 (D : Nat) (rec : Run) (a : List MV) (i : List Obj) : Option Res := match a, i with
  | [.agg [.sl r1, .sl r2, .sl r3, .sl r4, .sl r5, .sl r6, .sl r7, .sl r8, .sl r9, .sl r10]], [] => G_9 rec r1 r2 r3 r4 r5 r6 r7 r8 r9 r10
  | a, i => ev E LL (D + 1) 9 a i
theorem f_9 (D : Nat) (a : List MV) (i : List Obj) : F_9 D (ev E LL D) a i = ev E LL (D + 1) 9 a i := by
  unfold F_9
  split
  · exact g_9 D _ _ _ _ _ _ _ _ _ _
  · rfl
noncomputable def F_10 (D : Nat) (rec : Run) (a : List MV) (i : List Obj) : Option Res := match a, i with
  | [.agg [.sl r1, .sl r2, .sl r3, .sl r4, .sl r5, .sl r6, .sl r7, .sl r8, .sl r9, .sl r10]], [] => G_10 rec r1 r2 r3 r4 r5 r6 r7 r8 r9 r10
  | a, i => ev E LL (D + 1) 10 a i
theorem f_10 (D : Nat) (a : List MV) (i : List Obj) : F_10 D (ev E LL D) a i = ev E LL (D + 1) 10 a i := by
  unfold F_10
  split
  · exact g_10 D _ _ _ _ _ _ _ _ _ _
  · rfl
noncomputable def F_11 (D : Nat) (rec : Run) (a : List MV) (i : List Obj) : Option Res := match a, i with
  | [.agg [.sl r1, .sl r2, .sl r3, .sl r4, .sl r5, .sl r6, .sl r7, .sl r8, .sl r9, .sl r10], .str s11], [] => G_11 rec r1 r2 r3 r4 r5 r6 r7 r8 r9 r10 s11
  | a, i => ev E LL (D + 1) 11 a i
theorem f_11 (D : Nat) (a : List MV) (i : List Obj) : F_11 D (ev E LL D) a i = ev E LL (D + 1) 11 a i := by
  unfold F_11
  split
  · exact g_11 D _ _ _ _ _ _ _ _ _ _ _
  · rfl
noncomputable def F_12 (D : Nat) (rec : Run) (a : List MV) (i : List Obj) : Option Res := match a, i with
  | [.int .i64 n1, .sl r2], [] => G_12 rec n1 r2
  | a, i => ev E LL (D + 1) 12 a i
theorem f_12 (D : Nat) (a : List MV) (i : List Obj) : F_12 D (ev E LL D) a i = ev E LL (D + 1) 12 a i := by
  unfold F_12
  split
  · exact g_12 D _ _
  · rfl
noncomputable def F_13 (D : Nat) (rec : Run) (a : List MV) (i : List Obj) : Option Res := match a, i with
  | [.agg [.bool b1, .int .i64 n2, .sl r3, .sl r4, .int .i64 n5, .str s6, .str s7]], [] => G_13 rec b1 n2 r3 r4 n5 s6 s7
  | a, i => ev E LL (D + 1) 13 a i
theorem f_13 (D : Nat) (a : List MV) (i : List Obj) : F_13 D (ev E LL D) a i = ev E LL (D + 1) 13 a i := by
  unfold F_13
  split
  · exact g_13 D _ _ _ _ _ _ _
  · rfl
noncomputable def F_14 (D : Nat) (rec : Run) (a : List MV) (i : List Obj) : Option Res := match a, i with
  | [.agg [.sl r1, .sl r2, .sl r3, .sl r4, .sl r5, .sl r6, .sl r7, .sl r8, .sl r9, .sl r10]], [] => G_14 rec r1 r2 r3 r4 r5 r6 r7 r8 r9 r10
  | a, i => ev E LL (D + 1) 14 a i
theorem f_14 (D : Nat) (a : List MV) (i : List Obj) : F_14 D (ev E LL D) a i = ev E LL (D + 1) 14 a i := by
  unfold F_14
  split
  · exact g_14 D _ _ _ _ _ _ _ _ _ _
  · rfl
noncomputable def F_15 (D : Nat) (rec : Run) (a : List MV) (i : List Obj) : Option Res := match a, i with
  | [.agg [.sl r1, .sl r2, .sl r3, .sl r4, .sl r5, .sl r6, .sl r7, .sl r8, .sl r9, .sl r10], .int .i64 n11], [] => G_15 rec r1 r2 r3 r4 r5 r6 r7 r8 r9 r10 n11
  | a, i => ev E LL (D + 1) 15 a i
theorem f_15 (D : Nat) (a : List MV) (i : List Obj) : F_15 D (ev E LL D) a i = ev E LL (D + 1) 15 a i := by
  unfold F_15
  split
  · exact g_15 D _ _ _ _ _ _ _ _ _ _ _
  · rfl
noncomputable def F_16 (D : Nat) (rec : Run) (a : List MV) (i : List Obj) : Option Res := match a, i with
  | [.sl r1, .sl r2, .str s3], [] => G_16 rec r1 r2 s3
  | a, i => ev E LL (D + 1) 16 a i
theorem f_16 (D : Nat) (a : List MV) (i : List Obj) : F_16 D (ev E LL D) a i = ev E LL (D + 1) 16 a i := by
  unfold F_16
  split
  · exact g_16 D _ _ _
  · rfl
noncomputable def F_17 (D : Nat) (rec : Run) (a : List MV) (i : List Obj) : Option Res := match a, i with
  | [.agg [.sl r1, .sl r2, .sl r3, .sl r4, .sl r5, .sl r6, .sl r7, .sl r8, .sl r9, .sl r10], .str s11], [] => G_17 rec r1 r2 r3 r4 r5 r6 r7 r8 r9 r10 s11
  | a, i => ev E LL (D + 1) 17 a i
theorem f_17 (D : Nat) (a : List MV) (i : List Obj) : F_17 D (ev E LL D) a i = ev E LL (D + 1) 17 a i := by
  unfold F_17
  split
  · exact g_17 D _ _ _ _ _ _ _ _ _ _ _
  · rfl
noncomputable def F_18 (D : Nat) (rec : Run) (a : List MV) (i : List Obj) : Option Res := match a, i with
  | [.int .i64 n1], [] => G_18 rec n1
  | a, i => ev E LL (D + 1) 18 a i
theorem f_18 (D : Nat) (a : List MV) (i : List Obj) : F_18 D (ev E LL D) a i = ev E LL (D + 1) 18 a i := by
  unfold F_18
  split
  · exact g_18 D _
  · rfl
noncomputable def F_19 (D : Nat) (rec : Run) (a : List MV) (i : List Obj) : Option Res := match a, i with
  | [.int .i64 n1, .str s2, .str s3], [] => G_19 rec n1 s2 s3
  | a, i => ev E LL (D + 1) 19 a i
theorem f_19 (D : Nat) (a : List MV) (i : List Obj) : F_19 D (ev E LL D) a i = ev E LL (D + 1) 19 a i := by
  unfold F_19
  split
  · exact g_19 D _ _ _
  · rfl
noncomputable def F_20 (D : Nat) (rec : Run) (a : List MV) (i : List Obj) : Option Res := match a, i with
  | [.int .i64 n1, .int .i64 n2], [] => G_20 rec n1 n2
  | a, i => ev E LL (D + 1) 20 a i
theorem f_20 (D : Nat) (a : List MV) (i : List Obj) : F_20 D (ev E LL D) a i = ev E LL (D + 1) 20 a i := by
  unfold F_20
  split
  · exact g_20 D _ _
  · rfl
noncomputable def F_21 (D : Nat) (rec : Run) (a : List MV) (i : List Obj) : Option Res := match a, i with
  | [.agg [.sl r1, .sl r2, .sl r3, .sl r4, .sl r5, .sl r6, .sl r7, .sl r8, .sl r9, .sl r10], .sl r11], [] => G_21 rec r1 r2 r3 r4 r5 r6 r7 r8 r9 r10 r11
  | a, i => ev E LL (D + 1) 21 a i
theorem f_21 (D : Nat) (a : List MV) (i : List Obj) : F_21 D (ev E LL D) a i = ev E LL (D + 1) 21 a i := by
  unfold F_21
  split
  · exact g_21 D _ _ _ _ _ _ _ _ _ _ _
  · rfl
noncomputable def F_22 (D : Nat) (rec : Run) (a : List MV) (i : List Obj) : Option Res := match a, i with
  | [.agg [.bool b1, .int .i64 n2, .sl r3, .sl r4, .int .i64 n5, .str s6, .str s7]], [] => G_22 rec b1 n2 r3 r4 n5 s6 s7
  | a, i => ev E LL (D + 1) 22 a i
theorem f_22 (D : Nat) (a : List MV) (i : List Obj) : F_22 D (ev E LL D) a i = ev E LL (D + 1) 22 a i := by
  unfold F_22
  split
  · exact g_22 D _ _ _ _ _ _ _
  · rfl
noncomputable def F_23 (D : Nat) (rec : Run) (a : List MV) (i : List Obj) : Option Res := if fnOf a = 24 then (match a, i with
  | [.sl r1, .fn 24 []], [] => G_23024 rec r1
  | a, i => ev E LL (D + 1) 23 a i) else if fnOf a = 26 then (match a, i with
  | [.sl r1, .fn 26 []], [] => G_23026 rec r1
  | a, i => ev E LL (D + 1) 23 a i) else ev E LL (D + 1) 23 a i
theorem f_23 (D : Nat) (a : List MV) (i : List Obj) : F_23 D (ev E LL D) a i = ev E LL (D + 1) 23 a i := by
  unfold F_23
  split
  · split
    · exact g_23024 D _
    · rfl
  split
  · split
    · exact g_23026 D _
    · rfl
  rfl
noncomputable def F_24 (D : Nat) (rec : Run) (a : List MV) (i : List Obj) : Option Res := match a, i with
  | [.int .i64 n1], [] => G_24 rec n1
  | a, i => ev E LL (D + 1) 24 a i
theorem f_24 (D : Nat) (a : List MV) (i : List Obj) : F_24 D (ev E LL D) a i = ev E LL (D + 1) 24 a i := by
  unfold F_24
  split
  · exact g_24 D _
  · rfl
noncomputable def F_25 (D : Nat) (rec : Run) (a : List MV) (i : List Obj) : Option Res := match a, i with
  | [.int .i64 n1, .int .i64 n2, .int .i64 n3], [] => G_25 rec n1 n2 n3
  | a, i => ev E LL (D + 1) 25 a i
theorem f_25 (D : Nat) (a : List MV) (i : List Obj) : F_25 D (ev E LL D) a i = ev E LL (D + 1) 25 a i := by
  unfold F_25
  split
  · exact g_25 D _ _ _
  · rfl
noncomputable def F_26 (D : Nat) (rec : Run) (a : List MV) (i : List Obj) : Option Res := match a, i with
  | [.int .i64 n1], [] => G_26 rec n1
  | a, i => ev E LL (D + 1) 26 a i
theorem f_26 (D : Nat) (a : List MV) (i : List Obj) : F_26 D (ev E LL D) a i = ev E LL (D + 1) 26 a i := by
  unfold F_26
  split
  · exact g_26 D _
  · rfl
noncomputable def F_27 (D : Nat) (rec : Run) (a : List MV) (i : List Obj) : Option Res := match a, i with
  | [.sl r1, .fn 28 []], [] => G_27028 rec r1
  | a, i => ev E LL (D + 1) 27 a i
theorem f_27 (D : Nat) (a : List MV) (i : List Obj) : F_27 D (ev E LL D) a i = ev E LL (D + 1) 27 a i := by
  unfold F_27
  split
  · exact g_27028 D _
  · rfl
noncomputable def F_28 (D : Nat) (rec : Run) (a : List MV) (i : List Obj) : Option Res := match a, i with
  | [.sl r1], [] => G_28 rec r1
  | a, i => ev E LL (D + 1) 28 a i
theorem f_28 (D : Nat) (a : List MV) (i : List Obj) : F_28 D (ev E LL D) a i = ev E LL (D + 1) 28 a i := by
  unfold F_28
  split
  · exact g_28 D _
  · rfl
noncomputable def F_29 (D : Nat) (rec : Run) (a : List MV) (i : List Obj) : Option Res := match a, i with
  | [.sl r1], [] => G_29 rec r1
  | a, i => ev E LL (D + 1) 29 a i
theorem f_29 (D : Nat) (a : List MV) (i : List Obj) : F_29 D (ev E LL D) a i = ev E LL (D + 1) 29 a i := by
  unfold F_29
  split
  · exact g_29 D _
  · rfl
noncomputable def F_30 (D : Nat) (rec : Run) (a : List MV) (i : List Obj) : Option Res := match a, i with
  | [.sl r1, .fn 31 []], [] => G_30031 rec r1
  | a, i => ev E LL (D + 1) 30 a i
theorem f_30 (D : Nat) (a : List MV) (i : List Obj) : F_30 D (ev E LL D) a i = ev E LL (D + 1) 30 a i := by
  unfold F_30
  split
  · exact g_30031 D _
  · rfl
noncomputable def F_31 (D : Nat) (rec : Run) (a : List MV) (i : List Obj) : Option Res := match a, i with
  | [.agg [.int .i64 n1, .str s2, .str s3, .int .i64 n4, .int .i64 n5, .str s6, .sl r7, .sl r8, .str s9, .str s10, .str s11, .str s12, .str s13]], [] => G_31 rec n1 s2 s3 n4 n5 s6 r7 r8 s9 s10 s11 s12 s13
  | a, i => ev E LL (D + 1) 31 a i
theorem f_31 (D : Nat) (a : List MV) (i : List Obj) : F_31 D (ev E LL D) a i = ev E LL (D + 1) 31 a i := by
  unfold F_31
  split
  · exact g_31 D _ _ _ _ _ _ _ _ _ _ _ _ _
  · rfl
noncomputable def F_32 (D : Nat) (rec : Run) (a : List MV) (i : List Obj) : Option Res := match a, i with
  | [.agg [.int .i64 n1, .str s2, .str s3, .int .i64 n4, .int .i64 n5, .str s6, .sl r7, .sl r8, .str s9, .str s10, .str s11, .str s12, .str s13]], [] => G_32 rec n1 s2 s3 n4 n5 s6 r7 r8 s9 s10 s11 s12 s13
  | a, i => ev E LL (D + 1) 32 a i
theorem f_32 (D : Nat) (a : List MV) (i : List Obj) : F_32 D (ev E LL D) a i = ev E LL (D + 1) 32 a i := by
  unfold F_32
  split
  · exact g_32 D _ _ _ _ _ _ _ _ _ _ _ _ _
  · rfl
noncomputable def F_33 (D : Nat) (rec : Run) (a : List MV) (i : List Obj) : Option Res := match a, i with
  | [.sl r1, .fn 34 [.ptr (.imp 0) 0]], [.cells [.sl r2, .sl r3, .sl r4, .sl r5, .sl r6, .sl r7, .sl r8, .sl r9, .sl r10, .sl r11]] => G_33034 rec r1 r2 r3 r4 r5 r6 r7 r8 r9 r10 r11
  | a, i => ev E LL (D + 1) 33 a i
theorem f_33 (D : Nat) (a : List MV) (i : List Obj) : F_33 D (ev E LL D) a i = ev E LL (D + 1) 33 a i := by
  unfold F_33
  split
  · exact g_33034 D _ _ _ _ _ _ _ _ _ _ _
  · rfl
noncomputable def F_34 (D : Nat) (rec : Run) (a : List MV) (i : List Obj) : Option Res := match a, i with
  | [.agg [.int .i64 n1, .int .i64 n2, .str s3, .str s4], .ptr (.imp 0) 0], [.cells [.sl r5, .sl r6, .sl r7, .sl r8, .sl r9, .sl r10, .sl r11, .sl r12, .sl r13, .sl r14]] => G_34 rec n1 n2 s3 s4 r5 r6 r7 r8 r9 r10 r11 r12 r13 r14
  | a, i => ev E LL (D + 1) 34 a i
theorem f_34 (D : Nat) (a : List MV) (i : List Obj) : F_34 D (ev E LL D) a i = ev E LL (D + 1) 34 a i := by
  unfold F_34
  split
  · exact g_34 D _ _ _ _ _ _ _ _ _ _ _ _ _ _
  · rfl
noncomputable def F_35 (D : Nat) (rec : Run) (a : List MV) (i : List Obj) : Option Res := match a, i with
  | [.str s1], [] => G_35 rec s1
  | a, i => ev E LL (D + 1) 35 a i
theorem f_35 (D : Nat) (a : List MV) (i : List Obj) : F_35 D (ev E LL D) a i = ev E LL (D + 1) 35 a i := by
  unfold F_35
  split
  · exact g_35 D _
  · rfl
noncomputable def F_36 (D : Nat) (rec : Run) (a : List MV) (i : List Obj) : Option Res := if fnOf a = 37 then (match a, i with
  | [.sl r1, .fn 37 []], [] => G_36037 rec r1
  | a, i => ev E LL (D + 1) 36 a i) else if fnOf a = 107 then (match a, i with
  | [.sl r1, .fn 107 [.ptr (.imp 0) 0, .ptr (.imp 1) 0]], [.cells [.sl r2, .sl r3, .sl r4, .sl r5, .sl r6, .sl r7, .sl r8, .sl r9, .sl r10, .sl r11], .cells [.int .i64 n12]] => G_36107 rec r1 r2 r3 r4 r5 r6 r7 r8 r9 r10 r11 n12
  | a, i => ev E LL (D + 1) 36 a i) else ev E LL (D + 1) 36 a i
theorem f_36 (D : Nat) (a : List MV) (i : List Obj) : F_36 D (ev E LL D) a i = ev E LL (D + 1) 36 a i := by
  unfold F_36
  split
  · split
    · exact g_36037 D _
    · rfl
  split
  · split
    · exact g_36107 D _ _ _ _ _ _ _ _ _ _ _ _
    · rfl
  rfl
noncomputable def F_37 (D : Nat) (rec : Run) (a : List MV) (i : List Obj) : Option Res := match a, i with
  | [.str s1], [] => G_37 rec s1
  | a, i => ev E LL (D + 1) 37 a i
theorem f_37 (D : Nat) (a : List MV) (i : List Obj) : F_37 D (ev E LL D) a i = ev E LL (D + 1) 37 a i := by
  unfold F_37
  split
  · exact g_37 D _
  · rfl
noncomputable def F_38 (D : Nat) (rec : Run) (a : List MV) (i : List Obj) : Option Res := if fnOf a = 39 then (match a, i with
  | [.sl r1, .fn 39 []], [] => G_38039 rec r1
  | a, i => ev E LL (D + 1) 38 a i) else if fnOf a = 53 then (match a, i with
  | [.sl r1, .fn 53 [.ptr (.imp 0) 0, .ptr (.imp 1) 0]], [.cells [.str s2], .cells [.sl r3, .sl r4, .sl r5, .sl r6, .sl r7, .sl r8, .sl r9, .sl r10, .sl r11, .sl r12]] => G_38053 rec r1 s2 r3 r4 r5 r6 r7 r8 r9 r10 r11 r12
  | a, i => ev E LL (D + 1) 38 a i) else ev E LL (D + 1) 38 a i
theorem f_38 (D : Nat) (a : List MV) (i : List Obj) : F_38 D (ev E LL D) a i = ev E LL (D + 1) 38 a i := by
  unfold F_38
  split
  · split
    · exact g_38039 D _
    · rfl
  split
  · split
    · exact g_38053 D _ _ _ _ _ _ _ _ _ _ _ _
    · rfl
  rfl
noncomputable def F_39 (D : Nat) (rec : Run) (a : List MV) (i : List Obj) : Option Res := match a, i with
  | [.agg [.int .i64 n1, .str s2]], [] => G_39 rec n1 s2
  | a, i => ev E LL (D + 1) 39 a i
theorem f_39 (D : Nat) (a : List MV) (i : List Obj) : F_39 D (ev E LL D) a i = ev E LL (D + 1) 39 a i := by
  unfold F_39
  split
  · exact g_39 D _ _
  · rfl
noncomputable def F_40 (D : Nat) (rec : Run) (a : List MV) (i : List Obj) : Option Res := match a, i with
  | [.sl r1, .fn 41 []], [] => G_40041 rec r1
  | a, i => ev E LL (D + 1) 40 a i
theorem f_40 (D : Nat) (a : List MV) (i : List Obj) : F_40 D (ev E LL D) a i = ev E LL (D + 1) 40 a i := by
  unfold F_40
  split
  · exact g_40041 D _
  · rfl
noncomputable def F_43 (D : Nat) (rec : Run) (a : List MV) (i : List Obj) : Option Res := match a, i with
  | [.sl r1, .fn 44 [.ptr (.imp 0) 0]], [.cells [.sl r2, .sl r3, .sl r4, .sl r5, .sl r6, .sl r7, .sl r8, .sl r9, .sl r10, .sl r11]] => G_43044 rec r1 r2 r3 r4 r5 r6 r7 r8 r9 r10 r11
  | a, i => ev E LL (D + 1) 43 a i
theorem f_43 (D : Nat) (a : List MV) (i : List Obj) : F_43 D (ev E LL D) a i = ev E LL (D + 1) 43 a i := by
  unfold F_43
  split
  · exact g_43044 D _ _ _ _ _ _ _ _ _ _ _
  · rfl
noncomputable def F_47 (D : Nat) (rec : Run) (a : List MV) (i : List Obj) : Option Res := match a, i with
  | [.agg [.sl r1, .sl r2, .sl r3, .sl r4, .sl r5, .sl r6, .sl r7, .sl r8, .sl r9, .sl r10]], [] => G_47 rec r1 r2 r3 r4 r5 r6 r7 r8 r9 r10
  | a, i => ev E LL (D + 1) 47 a i
theorem f_47 (D : Nat) (a : List MV) (i : List Obj) : F_47 D (ev E LL D) a i = ev E LL (D + 1) 47 a i := by
  unfold F_47
  split
  · exact g_47 D _ _ _ _ _ _ _ _ _ _
  · rfl
noncomputable def F_48 (D : Nat) (rec : Run) (a : List MV) (i : List Obj) : Option Res := match a, i with
  | [.ptr (.imp 0) 0, .agg [.int .i64 n11, .int .i64 n12, .int .i64 n13, .int .i64 n14, .int .i64 n15, .str s16]], [.cells [.own r1, .ownK r2, .own r3, .own r4, .own r5, .own r6, .own r7, .own r8, .own r9, .own r10]] => G_48 rec r1 r2 r3 r4 r5 r6 r7 r8 r9 r10 n11 n12 n13 n14 n15 s16
  | a, i => ev E LL (D + 1) 48 a i
theorem f_48 (D : Nat) (a : List MV) (i : List Obj) : F_48 D (ev E LL D) a i = ev E LL (D + 1) 48 a i := by
  unfold F_48
  split
  · exact g_48 D _ _ _ _ _ _ _ _ _ _ _ _ _ _ _ _
  · rfl
noncomputable def F_49 (D : Nat) (rec : Run) (a : List MV) (i : List Obj) : Option Res := match a, i with
  | [.sl r1, .sl r2], [] => G_49 rec r1 r2
  | a, i => ev E LL (D + 1) 49 a i
theorem f_49 (D : Nat) (a : List MV) (i : List Obj) : F_49 D (ev E LL D) a i = ev E LL (D + 1) 49 a i := by
  unfold F_49
  split
  · exact g_49 D _ _
  · rfl
noncomputable def F_50 (D : Nat) (rec : Run) (a : List MV) (i : List Obj) : Option Res := match a, i with
  | [.sl r1], [] => G_50 rec r1
  | a, i => ev E LL (D + 1) 50 a i
theorem f_50 (D : Nat) (a : List MV) (i : List Obj) : F_50 D (ev E LL D) a i = ev E LL (D + 1) 50 a i := by
  unfold F_50
  split
  · exact g_50 D _
  · rfl
noncomputable def F_51 (D : Nat) (rec : Run) (a : List MV) (i : List Obj) : Option Res := match a, i with
  | [.sl r1, .sl r2], [] => G_51 rec r1 r2
  | a, i => ev E LL (D + 1) 51 a i
theorem f_51 (D : Nat) (a : List MV) (i : List Obj) : F_51 D (ev E LL D) a i = ev E LL (D + 1) 51 a i := by
  unfold F_51
  split
  · exact g_51 D _ _
  · rfl
noncomputable def F_52 (D : Nat) (rec : Run) (a : List MV) (i : List Obj) : Option Res := match a, i with
  | [.mapr (.imp 0), .str s2], [.map es1] => G_52 rec es1 s2
  | a, i => ev E LL (D + 1) 52 a i
theorem f_52 (D : Nat) (a : List MV) (i : List Obj) : F_52 D (ev E LL D) a i = ev E LL (D + 1) 52 a i := by
  unfold F_52
  split
  · exact g_52 D _ _
  · rfl
noncomputable def F_53 (D : Nat) (rec : Run) (a : List MV) (i : List Obj) : Option Res := match a, i with
  | [.agg [.int .i64 n1, .str s2], .ptr (.imp 0) 0, .ptr (.imp 1) 0], [.cells [.str s3], .cells [.sl r4, .sl r5, .sl r6, .sl r7, .sl r8, .sl r9, .sl r10, .sl r11, .sl r12, .sl r13]] => G_53 rec n1 s2 s3 r4 r5 r6 r7 r8 r9 r10 r11 r12 r13
  | a, i => ev E LL (D + 1) 53 a i
theorem f_53 (D : Nat) (a : List MV) (i : List Obj) : F_53 D (ev E LL D) a i = ev E LL (D + 1) 53 a i := by
  unfold F_53
  split
  · exact g_53 D _ _ _ _ _ _ _ _ _ _ _ _ _
  · rfl
noncomputable def F_54 (D : Nat) (rec : Run) (a : List MV) (i : List Obj) : Option Res := match a, i with
  | [.str s1, .str s2], [] => G_54 rec s1 s2
  | a, i => ev E LL (D + 1) 54 a i
theorem f_54 (D : Nat) (a : List MV) (i : List Obj) : F_54 D (ev E LL D) a i = ev E LL (D + 1) 54 a i := by
  unfold F_54
  split
  · exact g_54 D _ _
  · rfl
noncomputable def F_55 (D : Nat) (rec : Run) (a : List MV) (i : List Obj) : Option Res := match a, i with
  | [.agg [.sl r1, .sl r2, .sl r3, .sl r4, .sl r5, .sl r6, .sl r7, .sl r8, .sl r9, .sl r10], .int .i64 n11, .str s12, .str s13], [] => G_55 rec r1 r2 r3 r4 r5 r6 r7 r8 r9 r10 n11 s12 s13
  | a, i => ev E LL (D + 1) 55 a i
theorem f_55 (D : Nat) (a : List MV) (i : List Obj) : F_55 D (ev E LL D) a i = ev E LL (D + 1) 55 a i := by
  unfold F_55
  split
  · exact g_55 D _ _ _ _ _ _ _ _ _ _ _ _ _
  · rfl
noncomputable def F_56 (D : Nat) (rec : Run) (a : List MV) (i : List Obj) : Option Res := match a, i with
  | [.str s1], [] => G_56 rec s1
  | a, i => ev E LL (D + 1) 56 a i
theorem f_56 (D : Nat) (a : List MV) (i : List Obj) : F_56 D (ev E LL D) a i = ev E LL (D + 1) 56 a i := by
  unfold F_56
  split
  · exact g_56 D _
  · rfl
noncomputable def F_57 (D : Nat) (rec : Run) (a : List MV) (i : List Obj) : Option Res := match a, i with
  | [], [] => G_57 rec 
  | a, i => ev E LL (D + 1) 57 a i
theorem f_57 (D : Nat) (a : List MV) (i : List Obj) : F_57 D (ev E LL D) a i = ev E LL (D + 1) 57 a i := by
  unfold F_57
  split
  · exact g_57 D
  · rfl
noncomputable def F_58 (D : Nat) (rec : Run) (a : List MV) (i : List Obj) : Option Res := match a, i with
  | [.agg [.sl r1], .int .i64 n2, .str s3], [] => G_58 rec r1 n2 s3
  | a, i => ev E LL (D + 1) 58 a i
theorem f_58 (D : Nat) (a : List MV) (i : List Obj) : F_58 D (ev E LL D) a i = ev E LL (D + 1) 58 a i := by
  unfold F_58
  split
  · exact g_58 D _ _ _
  · rfl
noncomputable def F_59 (D : Nat) (rec : Run) (a : List MV) (i : List Obj) : Option Res := match a, i with
  | [.sl r1, .str s2], [] => G_59 rec r1 s2
  | a, i => ev E LL (D + 1) 59 a i
theorem f_59 (D : Nat) (a : List MV) (i : List Obj) : F_59 D (ev E LL D) a i = ev E LL (D + 1) 59 a i := by
  unfold F_59
  split
  · exact g_59 D _ _
  · rfl
noncomputable def F_60 (D : Nat) (rec : Run) (a : List MV) (i : List Obj) : Option Res := match a, i with
  | [.int .i64 n1], [] => G_60 rec n1
  | a, i => ev E LL (D + 1) 60 a i
theorem f_60 (D : Nat) (a : List MV) (i : List Obj) : F_60 D (ev E LL D) a i = ev E LL (D + 1) 60 a i := by
  unfold F_60
  split
  · exact g_60 D _
  · rfl
noncomputable def F_61 (D : Nat) (rec : Run) (a : List MV) (i : List Obj) : Option Res := match a, i with
  | [.int .i64 n1], [] => G_61 rec n1
  | a, i => ev E LL (D + 1) 61 a i
theorem f_61 (D : Nat) (a : List MV) (i : List Obj) : F_61 D (ev E LL D) a i = ev E LL (D + 1) 61 a i := by
  unfold F_61
  split
  · exact g_61 D _
  · rfl
noncomputable def F_63 (D : Nat) (rec : Run) (a : List MV) (i : List Obj) : Option Res := match a, i with
  | [.agg [.sl r1]], [] => G_63 rec r1
  | a, i => ev E LL (D + 1) 63 a i
theorem f_63 (D : Nat) (a : List MV) (i : List Obj) : F_63 D (ev E LL D) a i = ev E LL (D + 1) 63 a i := by
  unfold F_63
  split
  · exact g_63 D _
  · rfl
noncomputable def F_64 (D : Nat) (rec : Run) (a : List MV) (i : List Obj) : Option Res := match a, i with
  | [.agg [.sl r1], .int .i64 n2], [] => G_64 rec r1 n2
  | a, i => ev E LL (D + 1) 64 a i
theorem f_64 (D : Nat) (a : List MV) (i : List Obj) : F_64 D (ev E LL D) a i = ev E LL (D + 1) 64 a i := by
  unfold F_64
  split
  · exact g_64 D _ _
  · rfl
noncomputable def F_65 (D : Nat) (rec : Run) (a : List MV) (i : List Obj) : Option Res := match a, i with
  | [.sl r1, .int .i64 n2], [] => G_65 rec r1 n2
  | a, i => ev E LL (D + 1) 65 a i
theorem f_65 (D : Nat) (a : List MV) (i : List Obj) : F_65 D (ev E LL D) a i = ev E LL (D + 1) 65 a i := by
  unfold F_65
  split
  · exact g_65 D _ _
  · rfl
noncomputable def F_66 (D : Nat) (rec : Run) (a : List MV) (i : List Obj) : Option Res := match a, i with
  | [.str s1], [] => G_66 rec s1
  | a, i => ev E LL (D + 1) 66 a i
theorem f_66 (D : Nat) (a : List MV) (i : List Obj) : F_66 D (ev E LL D) a i = ev E LL (D + 1) 66 a i := by
  unfold F_66
  split
  · exact g_66 D _
  · rfl
noncomputable def F_67 (D : Nat) (rec : Run) (a : List MV) (i : List Obj) : Option Res := if fnOf a = 24 then (match a, i with
  | [.sl r1, .fn 24 []], [] => G_67024 rec r1
  | a, i => ev E LL (D + 1) 67 a i) else if fnOf a = 26 then (match a, i with
  | [.sl r1, .fn 26 []], [] => G_67026 rec r1
  | a, i => ev E LL (D + 1) 67 a i) else ev E LL (D + 1) 67 a i
theorem f_67 (D : Nat) (a : List MV) (i : List Obj) : F_67 D (ev E LL D) a i = ev E LL (D + 1) 67 a i := by
  unfold F_67
  split
  · split
    · exact g_67024 D _
    · rfl
  split
  · split
    · exact g_67026 D _
    · rfl
  rfl
noncomputable def F_68 (D : Nat) (rec : Run) (a : List MV) (i : List Obj) : Option Res := match a, i with
  | [.sl r1, .fn 28 []], [] => G_68028 rec r1
  | a, i => ev E LL (D + 1) 68 a i
theorem f_68 (D : Nat) (a : List MV) (i : List Obj) : F_68 D (ev E LL D) a i = ev E LL (D + 1) 68 a i := by
  unfold F_68
  split
  · exact g_68028 D _
  · rfl
noncomputable def F_71 (D : Nat) (rec : Run) (a : List MV) (i : List Obj) : Option Res := match a, i with
  | [.sl r1, .fn 31 []], [] => G_71031 rec r1
  | a, i => ev E LL (D + 1) 71 a i
theorem f_71 (D : Nat) (a : List MV) (i : List Obj) : F_71 D (ev E LL D) a i = ev E LL (D + 1) 71 a i := by
  unfold F_71
  split
  · exact g_71031 D _
  · rfl
noncomputable def F_72 (D : Nat) (rec : Run) (a : List MV) (i : List Obj) : Option Res := match a, i with
  | [.str s1], [] => G_72 rec s1
  | a, i => ev E LL (D + 1) 72 a i
theorem f_72 (D : Nat) (a : List MV) (i : List Obj) : F_72 D (ev E LL D) a i = ev E LL (D + 1) 72 a i := by
  unfold F_72
  split
  · exact g_72 D _
  · rfl
noncomputable def F_73 (D : Nat) (rec : Run) (a : List MV) (i : List Obj) : Option Res := match a, i with
  | [.int .i64 n1, .int .i64 n2], [] => G_73 rec n1 n2
  | a, i => ev E LL (D + 1) 73 a i
theorem f_73 (D : Nat) (a : List MV) (i : List Obj) : F_73 D (ev E LL D) a i = ev E LL (D + 1) 73 a i := by
  unfold F_73
  split
  · exact g_73 D _ _
  · rfl
noncomputable def F_74 (D : Nat) (rec : Run) (a : List MV) (i : List Obj) : Option Res := match a, i with
  | [.int .i64 n1, .str s2, .str s3], [] => G_74 rec n1 s2 s3
  | a, i => ev E LL (D + 1) 74 a i
theorem f_74 (D : Nat) (a : List MV) (i : List Obj) : F_74 D (ev E LL D) a i = ev E LL (D + 1) 74 a i := by
  unfold F_74
  split
  · exact g_74 D _ _ _
  · rfl
noncomputable def F_75 (D : Nat) (rec : Run) (a : List MV) (i : List Obj) : Option Res := match a, i with
  | [.sl r1, .fn 34 [.ptr (.imp 0) 0]], [.cells [.sl r2, .sl r3, .sl r4, .sl r5, .sl r6, .sl r7, .sl r8, .sl r9, .sl r10, .sl r11]] => G_75034 rec r1 r2 r3 r4 r5 r6 r7 r8 r9 r10 r11
  | a, i => ev E LL (D + 1) 75 a i
theorem f_75 (D : Nat) (a : List MV) (i : List Obj) : F_75 D (ev E LL D) a i = ev E LL (D + 1) 75 a i := by
  unfold F_75
  split
  · exact g_75034 D _ _ _ _ _ _ _ _ _ _ _
  · rfl
noncomputable def F_76 (D : Nat) (rec : Run) (a : List MV) (i : List Obj) : Option Res := if fnOf a = 37 then (match a, i with
  | [.sl r1, .fn 37 []], [] => G_76037 rec r1
  | a, i => ev E LL (D + 1) 76 a i) else if fnOf a = 100 then (match a, i with
  | [.sl r1, .fn 100 []], [] => G_76100 rec r1
  | a, i => ev E LL (D + 1) 76 a i) else if fnOf a = 107 then (match a, i with
  | [.sl r1, .fn 107 [.ptr (.imp 0) 0, .ptr (.imp 1) 0]], [.cells [.sl r2, .sl r3, .sl r4, .sl r5, .sl r6, .sl r7, .sl r8, .sl r9, .sl r10, .sl r11], .cells [.int .i64 n12]] => G_76107 rec r1 r2 r3 r4 r5 r6 r7 r8 r9 r10 r11 n12
  | a, i => ev E LL (D + 1) 76 a i) else if fnOf a = 115 then (match a, i with
  | [.sl r1, .fn 115 []], [] => G_76115 rec r1
  | a, i => ev E LL (D + 1) 76 a i) else ev E LL (D + 1) 76 a i
theorem f_76 (D : Nat) (a : List MV) (i : List Obj) : F_76 D (ev E LL D) a i = ev E LL (D + 1) 76 a i := by
  unfold F_76
  split
  · split
    · exact g_76037 D _
    · rfl
  split
  · split
    · exact g_76100 D _
    · rfl
  split
  · split
    · exact g_76107 D _ _ _ _ _ _ _ _ _ _ _ _
    · rfl
  split
  · split
    · exact g_76115 D _
    · rfl
  rfl
noncomputable def F_77 (D : Nat) (rec : Run) (a : List MV) (i : List Obj) : Option Res := if fnOf a = 39 then (match a, i with
  | [.sl r1, .fn 39 []], [] => G_77039 rec r1
  | a, i => ev E LL (D + 1) 77 a i) else if fnOf a = 53 then (match a, i with
  | [.sl r1, .fn 53 [.ptr (.imp 0) 0, .ptr (.imp 1) 0]], [.cells [.str s2], .cells [.sl r3, .sl r4, .sl r5, .sl r6, .sl r7, .sl r8, .sl r9, .sl r10, .sl r11, .sl r12]] => G_77053 rec r1 s2 r3 r4 r5 r6 r7 r8 r9 r10 r11 r12
  | a, i => ev E LL (D + 1) 77 a i) else ev E LL (D + 1) 77 a i
theorem f_77 (D : Nat) (a : List MV) (i : List Obj) : F_77 D (ev E LL D) a i = ev E LL (D + 1) 77 a i := by
  unfold F_77
  split
  · split
    · exact g_77039 D _
    · rfl
  split
  · split
    · exact g_77053 D _ _ _ _ _ _ _ _ _ _ _ _
    · rfl
  rfl
noncomputable def F_78 (D : Nat) (rec : Run) (a : List MV) (i : List Obj) : Option Res := match a, i with
  | [.sl r1, .fn 41 []], [] => G_78041 rec r1
  | a, i => ev E LL (D + 1) 78 a i
theorem f_78 (D : Nat) (a : List MV) (i : List Obj) : F_78 D (ev E LL D) a i = ev E LL (D + 1) 78 a i := by
  unfold F_78
  split
  · exact g_78041 D _
  · rfl
noncomputable def F_80 (D : Nat) (rec : Run) (a : List MV) (i : List Obj) : Option Res := match a, i with
  | [.sl r1, .fn 44 [.ptr (.imp 0) 0]], [.cells [.sl r2, .sl r3, .sl r4, .sl r5, .sl r6, .sl r7, .sl r8, .sl r9, .sl r10, .sl r11]] => G_80044 rec r1 r2 r3 r4 r5 r6 r7 r8 r9 r10 r11
  | a, i => ev E LL (D + 1) 80 a i
theorem f_80 (D : Nat) (a : List MV) (i : List Obj) : F_80 D (ev E LL D) a i = ev E LL (D + 1) 80 a i := by
  unfold F_80
  split
  · exact g_80044 D _ _ _ _ _ _ _ _ _ _ _
  · rfl
noncomputable def F_93 (D : Nat) (rec : Run) (a : List MV) (i : List Obj) : Option Res := match a, i with
  | [.agg [.bool b1, .int .i64 n2, .sl r3, .sl r4, .int .i64 n5, .str s6, .str s7]], [] => G_93 rec b1 n2 r3 r4 n5 s6 s7
  | a, i => ev E LL (D + 1) 93 a i
theorem f_93 (D : Nat) (a : List MV) (i : List Obj) : F_93 D (ev E LL D) a i = ev E LL (D + 1) 93 a i := by
  unfold F_93
  split
  · exact g_93 D _ _ _ _ _ _ _
  · rfl
noncomputable def F_94 (D : Nat) (rec : Run) (a : List MV) (i : List Obj) : Option Res := match a, i with
  | [.sl r1], [] => G_94 rec r1
  | a, i => ev E LL (D + 1) 94 a i
theorem f_94 (D : Nat) (a : List MV) (i : List Obj) : F_94 D (ev E LL D) a i = ev E LL (D + 1) 94 a i := by
  unfold F_94
  split
  · exact g_94 D _
  · rfl
noncomputable def F_95 (D : Nat) (rec : Run) (a : List MV) (i : List Obj) : Option Res := match a, i with
  | [.ptr (.imp 0) 0, .agg [.int .i64 n11, .int .i64 n12, .int .i64 n13, .int .i64 n14, .int .i64 n15, .str s16]], [.cells [.own r1, .ownK r2, .own r3, .own r4, .own r5, .own r6, .own r7, .own r8, .own r9, .own r10]] => G_95 rec r1 r2 r3 r4 r5 r6 r7 r8 r9 r10 n11 n12 n13 n14 n15 s16
  | a, i => ev E LL (D + 1) 95 a i
theorem f_95 (D : Nat) (a : List MV) (i : List Obj) : F_95 D (ev E LL D) a i = ev E LL (D + 1) 95 a i := by
  unfold F_95
  split
  · exact g_95 D _ _ _ _ _ _ _ _ _ _ _ _ _ _ _ _
  · rfl
noncomputable def F_96 (D : Nat) (rec : Run) (a : List MV) (i : List Obj) : Option Res := match a, i with
  | [.agg [.bool b1, .int .i64 n2, .sl r3, .sl r4, .int .i64 n5, .str s6, .str s7], .agg [.int .i64 n8, .str s9, .str s10, .int .i64 n11, .int .i64 n12, .str s13, .sl r14, .sl r15, .str s16, .str s17, .str s18, .str s19, .str s20]], [] => G_96 rec b1 n2 r3 r4 n5 s6 s7 n8 s9 s10 n11 n12 s13 r14 r15 s16 s17 s18 s19 s20
  | a, i => ev E LL (D + 1) 96 a i
theorem f_96 (D : Nat) (a : List MV) (i : List Obj) : F_96 D (ev E LL D) a i = ev E LL (D + 1) 96 a i := by
  unfold F_96
  split
  · exact g_96 D _ _ _ _ _ _ _ _ _ _ _ _ _ _ _ _ _ _ _ _
  · rfl
noncomputable def F_97 (D : Nat) (rec : Run) (a : List MV) (i : List Obj) : Option Res := match a, i with
  | [.ptr (.imp 0) 0, .agg [.int .i64 n11, .int .i64 n12, .int .i64 n13, .int .i64 n14, .int .i64 n15, .str s16]], [.cells [.own r1, .ownK r2, .own r3, .own r4, .own r5, .own r6, .own r7, .own r8, .own r9, .own r10]] => G_97 rec r1 r2 r3 r4 r5 r6 r7 r8 r9 r10 n11 n12 n13 n14 n15 s16
  | a, i => ev E LL (D + 1) 97 a i
theorem f_97 (D : Nat) (a : List MV) (i : List Obj) : F_97 D (ev E LL D) a i = ev E LL (D + 1) 97 a i := by
  unfold F_97
  split
  · exact g_97 D _ _ _ _ _ _ _ _ _ _ _ _ _ _ _ _
  · rfl
noncomputable def F_100 (D : Nat) (rec : Run) (a : List MV) (i : List Obj) : Option Res := match a, i with
  | [.str s1], [] => G_100 rec s1
  | a, i => ev E LL (D + 1) 100 a i
theorem f_100 (D : Nat) (a : List MV) (i : List Obj) : F_100 D (ev E LL D) a i = ev E LL (D + 1) 100 a i := by
  unfold F_100
  split
  · exact g_100 D _
  · rfl
noncomputable def F_101 (D : Nat) (rec : Run) (a : List MV) (i : List Obj) : Option Res := match a, i with
  | [.sl r1, .fn 102 []], [] => G_101102 rec r1
  | a, i => ev E LL (D + 1) 101 a i
theorem f_101 (D : Nat) (a : List MV) (i : List Obj) : F_101 D (ev E LL D) a i = ev E LL (D + 1) 101 a i := by
  unfold F_101
  split
  · exact g_101102 D _
  · rfl
noncomputable def F_102 (D : Nat) (rec : Run) (a : List MV) (i : List Obj) : Option Res := match a, i with
  | [.agg [.str s1, .str s2]], [] => G_102 rec s1 s2
  | a, i => ev E LL (D + 1) 102 a i
theorem f_102 (D : Nat) (a : List MV) (i : List Obj) : F_102 D (ev E LL D) a i = ev E LL (D + 1) 102 a i := by
  unfold F_102
  split
  · exact g_102 D _ _
  · rfl
noncomputable def F_103 (D : Nat) (rec : Run) (a : List MV) (i : List Obj) : Option Res := match a, i with
  | [.str s1, .ptr (.imp 0) 0, .ptr (.imp 1) 0], [.cells [.mapr (.imp 2)], .cells [.own r3], .map es2] => G_103 rec s1 es2 r3
  | a, i => ev E LL (D + 1) 103 a i
theorem f_103 (D : Nat) (a : List MV) (i : List Obj) : F_103 D (ev E LL D) a i = ev E LL (D + 1) 103 a i := by
  unfold F_103
  split
  · exact g_103 D _ _ _
  · rfl
noncomputable def F_104 (D : Nat) (rec : Run) (a : List MV) (i : List Obj) : Option Res := match a, i with
  | [.str s1, .str s2], [] => G_104 rec s1 s2
  | a, i => ev E LL (D + 1) 104 a i
theorem f_104 (D : Nat) (a : List MV) (i : List Obj) : F_104 D (ev E LL D) a i = ev E LL (D + 1) 104 a i := by
  unfold F_104
  split
  · exact g_104 D _ _
  · rfl
noncomputable def F_105 (D : Nat) (rec : Run) (a : List MV) (i : List Obj) : Option Res := match a, i with
  | [.str s1, .str s2], [] => G_105 rec s1 s2
  | a, i => ev E LL (D + 1) 105 a i
theorem f_105 (D : Nat) (a : List MV) (i : List Obj) : F_105 D (ev E LL D) a i = ev E LL (D + 1) 105 a i := by
  unfold F_105
  split
  · exact g_105 D _ _
  · rfl
noncomputable def F_107 (D : Nat) (rec : Run) (a : List MV) (i : List Obj) : Option Res := match a, i with
  | [.str s1, .ptr (.imp 0) 0, .ptr (.imp 1) 0], [.cells [.sl r2, .sl r3, .sl r4, .sl r5, .sl r6, .sl r7, .sl r8, .sl r9, .sl r10, .sl r11], .cells [.int .i64 n12]] => G_107 rec s1 r2 r3 r4 r5 r6 r7 r8 r9 r10 r11 n12
  | a, i => ev E LL (D + 1) 107 a i
theorem f_107 (D : Nat) (a : List MV) (i : List Obj) : F_107 D (ev E LL D) a i = ev E LL (D + 1) 107 a i := by
  unfold F_107
  split
  · exact g_107 D _ _ _ _ _ _ _ _ _ _ _ _
  · rfl
noncomputable def F_108 (D : Nat) (rec : Run) (a : List MV) (i : List Obj) : Option Res := if fnOf a = 31 then (match a, i with
  | [.sl r1, .fn 31 []], [] => G_108031 rec r1
  | a, i => ev E LL (D + 1) 108 a i) else if fnOf a = 109 then (match a, i with
  | [.sl r1, .fn 109 [.ptr (.imp 0) 0]], [.cells [.str s2]] => G_108109 rec r1 s2
  | a, i => ev E LL (D + 1) 108 a i) else ev E LL (D + 1) 108 a i
theorem f_108 (D : Nat) (a : List MV) (i : List Obj) : F_108 D (ev E LL D) a i = ev E LL (D + 1) 108 a i := by
  unfold F_108
  split
  · split
    · exact g_108031 D _
    · rfl
  split
  · split
    · exact g_108109 D _ _
    · rfl
  rfl
noncomputable def F_109 (D : Nat) (rec : Run) (a : List MV) (i : List Obj) : Option Res := match a, i with
  | [.agg [.int .i64 n1, .str s2, .str s3, .int .i64 n4, .int .i64 n5, .str s6, .sl r7, .sl r8, .str s9, .str s10, .str s11, .str s12, .str s13], .ptr (.imp 0) 0], [.cells [.str s14]] => G_109 rec n1 s2 s3 n4 n5 s6 r7 r8 s9 s10 s11 s12 s13 s14
  | a, i => ev E LL (D + 1) 109 a i
theorem f_109 (D : Nat) (a : List MV) (i : List Obj) : F_109 D (ev E LL D) a i = ev E LL (D + 1) 109 a i := by
  unfold F_109
  split
  · exact g_109 D _ _ _ _ _ _ _ _ _ _ _ _ _ _
  · rfl
noncomputable def F_110 (D : Nat) (rec : Run) (a : List MV) (i : List Obj) : Option Res := match a, i with
  | [.agg [.sl r1]], [] => G_110 rec r1
  | a, i => ev E LL (D + 1) 110 a i
theorem f_110 (D : Nat) (a : List MV) (i : List Obj) : F_110 D (ev E LL D) a i = ev E LL (D + 1) 110 a i := by
  unfold F_110
  split
  · exact g_110 D _
  · rfl
noncomputable def F_111 (D : Nat) (rec : Run) (a : List MV) (i : List Obj) : Option Res := match a, i with
  | [.str s1, .int .i64 n2], [] => G_111 rec s1 n2
  | a, i => ev E LL (D + 1) 111 a i
theorem f_111 (D : Nat) (a : List MV) (i : List Obj) : F_111 D (ev E LL D) a i = ev E LL (D + 1) 111 a i := by
  unfold F_111
  split
  · exact g_111 D _ _
  · rfl
noncomputable def F_112 (D : Nat) (rec : Run) (a : List MV) (i : List Obj) : Option Res := match a, i with
  | [.int .i64 n1], [] => G_112 rec n1
  | a, i => ev E LL (D + 1) 112 a i
theorem f_112 (D : Nat) (a : List MV) (i : List Obj) : F_112 D (ev E LL D) a i = ev E LL (D + 1) 112 a i := by
  unfold F_112
  split
  · exact g_112 D _
  · rfl
noncomputable def F_113 (D : Nat) (rec : Run) (a : List MV) (i : List Obj) : Option Res := match a, i with
  | [.int .i64 n1], [] => G_113 rec n1
  | a, i => ev E LL (D + 1) 113 a i
theorem f_113 (D : Nat) (a : List MV) (i : List Obj) : F_113 D (ev E LL D) a i = ev E LL (D + 1) 113 a i := by
  unfold F_113
  split
  · exact g_113 D _
  · rfl
noncomputable def F_115 (D : Nat) (rec : Run) (a : List MV) (i : List Obj) : Option Res := match a, i with
  | [.str s1], [] => G_115 rec s1
  | a, i => ev E LL (D + 1) 115 a i
theorem f_115 (D : Nat) (a : List MV) (i : List Obj) : F_115 D (ev E LL D) a i = ev E LL (D + 1) 115 a i := by
  unfold F_115
  split
  · exact g_115 D _
  · rfl
noncomputable def F_116 (D : Nat) (rec : Run) (a : List MV) (i : List Obj) : Option Res := match a, i with
  | [.str s1], [] => G_116 rec s1
  | a, i => ev E LL (D + 1) 116 a i
theorem f_116 (D : Nat) (a : List MV) (i : List Obj) : F_116 D (ev E LL D) a i = ev E LL (D + 1) 116 a i := by
  unfold F_116
  split
  · exact g_116 D _
  · rfl
noncomputable def F_117 (D : Nat) (rec : Run) (a : List MV) (i : List Obj) : Option Res := if fnOf a = 118 then (match a, i with
  | [.sl r1, .fn 118 [.ptr (.imp 0) 0]], [.cells [.int .i64 n2]] => G_117118 rec r1 n2
  | a, i => ev E LL (D + 1) 117 a i) else if fnOf a = 153 then (match a, i with
  | [.sl r1, .fn 153 [.ptr (.imp 0) 0]], [.cells [.str s2, .str s3]] => G_117153 rec r1 s2 s3
  | a, i => ev E LL (D + 1) 117 a i) else if fnOf a = 181 then (match a, i with
  | [.sl r1, .fn 181 [.ptr (.imp 0) 0]], [.cells [.sl r2]] => G_117181 rec r1 r2
  | a, i => ev E LL (D + 1) 117 a i) else ev E LL (D + 1) 117 a i
theorem f_117 (D : Nat) (a : List MV) (i : List Obj) : F_117 D (ev E LL D) a i = ev E LL (D + 1) 117 a i := by
  unfold F_117
  split
  · split
    · exact g_117118 D _ _
    · rfl
  split
  · split
    · exact g_117153 D _ _ _
    · rfl
  split
  · split
    · exact g_117181 D _ _
    · rfl
  rfl
noncomputable def F_118 (D : Nat) (rec : Run) (a : List MV) (i : List Obj) : Option Res := match a, i with
  | [.agg [.int .i64 n1, .str s2], .ptr (.imp 0) 0], [.cells [.int .i64 n3]] => G_118 rec n1 s2 n3
  | a, i => ev E LL (D + 1) 118 a i
theorem f_118 (D : Nat) (a : List MV) (i : List Obj) : F_118 D (ev E LL D) a i = ev E LL (D + 1) 118 a i := by
  unfold F_118
  split
  · exact g_118 D _ _ _
  · rfl
noncomputable def F_119 (D : Nat) (rec : Run) (a : List MV) (i : List Obj) : Option Res := match a, i with
  | [.str s1, .sl r2], [] => G_119 rec s1 r2
  | a, i => ev E LL (D + 1) 119 a i
theorem f_119 (D : Nat) (a : List MV) (i : List Obj) : F_119 D (ev E LL D) a i = ev E LL (D + 1) 119 a i := by
  unfold F_119
  split
  · exact g_119 D _ _
  · rfl
noncomputable def F_120 (D : Nat) (rec : Run) (a : List MV) (i : List Obj) : Option Res := if fnOf a = 24 then (match a, i with
  | [.sl r1, .fn 24 []], [] => G_120024 rec r1
  | a, i => ev E LL (D + 1) 120 a i) else if fnOf a = 26 then (match a, i with
  | [.sl r1, .fn 26 []], [] => G_120026 rec r1
  | a, i => ev E LL (D + 1) 120 a i) else if fnOf a = 185 then (match a, i with
  | [.sl r1, .fn 185 [.ptr (.imp 0) 0]], [.cells [.str s2, .int .i64 n3, .sl r4]] => G_120185 rec r1 s2 n3 r4
  | a, i => ev E LL (D + 1) 120 a i) else ev E LL (D + 1) 120 a i
theorem f_120 (D : Nat) (a : List MV) (i : List Obj) : F_120 D (ev E LL D) a i = ev E LL (D + 1) 120 a i := by
  unfold F_120
  split
  · split
    · exact g_120024 D _
    · rfl
  split
  · split
    · exact g_120026 D _
    · rfl
  split
  · split
    · exact g_120185 D _ _ _ _
    · rfl
  rfl
noncomputable def F_121 (D : Nat) (rec : Run) (a : List MV) (i : List Obj) : Option Res := match a, i with
  | [.sl r1, .fn 28 []], [] => G_121028 rec r1
  | a, i => ev E LL (D + 1) 121 a i
theorem f_121 (D : Nat) (a : List MV) (i : List Obj) : F_121 D (ev E LL D) a i = ev E LL (D + 1) 121 a i := by
  unfold F_121
  split
  · exact g_121028 D _
  · rfl
noncomputable def F_124 (D : Nat) (rec : Run) (a : List MV) (i : List Obj) : Option Res := match a, i with
  | [.str s1], [] => G_124 rec s1
  | a, i => ev E LL (D + 1) 124 a i
theorem f_124 (D : Nat) (a : List MV) (i : List Obj) : F_124 D (ev E LL D) a i = ev E LL (D + 1) 124 a i := by
  unfold F_124
  split
  · exact g_124 D _
  · rfl
noncomputable def F_125 (D : Nat) (rec : Run) (a : List MV) (i : List Obj) : Option Res := match a, i with
  | [.sl r1, .fn 34 [.ptr (.imp 0) 0]], [.cells [.sl r2, .sl r3, .sl r4, .sl r5, .sl r6, .sl r7, .sl r8, .sl r9, .sl r10, .sl r11]] => G_125034 rec r1 r2 r3 r4 r5 r6 r7 r8 r9 r10 r11
  | a, i => ev E LL (D + 1) 125 a i
theorem f_125 (D : Nat) (a : List MV) (i : List Obj) : F_125 D (ev E LL D) a i = ev E LL (D + 1) 125 a i := by
  unfold F_125
  split
  · exact g_125034 D _ _ _ _ _ _ _ _ _ _ _
  · rfl
noncomputable def F_126 (D : Nat) (rec : Run) (a : List MV) (i : List Obj) : Option Res := if fnOf a = 37 then (match a, i with
  | [.sl r1, .fn 37 []], [] => G_126037 rec r1
  | a, i => ev E LL (D + 1) 126 a i) else if fnOf a = 100 then (match a, i with
  | [.sl r1, .fn 100 []], [] => G_126100 rec r1
  | a, i => ev E LL (D + 1) 126 a i) else if fnOf a = 107 then (match a, i with
  | [.sl r1, .fn 107 [.ptr (.imp 0) 0, .ptr (.imp 1) 0]], [.cells [.sl r2, .sl r3, .sl r4, .sl r5, .sl r6, .sl r7, .sl r8, .sl r9, .sl r10, .sl r11], .cells [.int .i64 n12]] => G_126107 rec r1 r2 r3 r4 r5 r6 r7 r8 r9 r10 r11 n12
  | a, i => ev E LL (D + 1) 126 a i) else if fnOf a = 115 then (match a, i with
  | [.sl r1, .fn 115 []], [] => G_126115 rec r1
  | a, i => ev E LL (D + 1) 126 a i) else ev E LL (D + 1) 126 a i
theorem f_126 (D : Nat) (a : List MV) (i : List Obj) : F_126 D (ev E LL D) a i = ev E LL (D + 1) 126 a i := by
  unfold F_126
  split
  · split
    · exact g_126037 D _
    · rfl
  split
  · split
    · exact g_126100 D _
    · rfl
  split
  · split
    · exact g_126107 D _ _ _ _ _ _ _ _ _ _ _ _
    · rfl
  split
  · split
    · exact g_126115 D _
    · rfl
  rfl
noncomputable def F_127 (D : Nat) (rec : Run) (a : List MV) (i : List Obj) : Option Res := if fnOf a = 39 then (match a, i with
  | [.sl r1, .fn 39 []], [] => G_127039 rec r1
  | a, i => ev E LL (D + 1) 127 a i) else if fnOf a = 53 then (match a, i with
  | [.sl r1, .fn 53 [.ptr (.imp 0) 0, .ptr (.imp 1) 0]], [.cells [.str s2], .cells [.sl r3, .sl r4, .sl r5, .sl r6, .sl r7, .sl r8, .sl r9, .sl r10, .sl r11, .sl r12]] => G_127053 rec r1 s2 r3 r4 r5 r6 r7 r8 r9 r10 r11 r12
  | a, i => ev E LL (D + 1) 127 a i) else ev E LL (D + 1) 127 a i
theorem f_127 (D : Nat) (a : List MV) (i : List Obj) : F_127 D (ev E LL D) a i = ev E LL (D + 1) 127 a i := by
  unfold F_127
  split
  · split
    · exact g_127039 D _
    · rfl
  split
  · split
    · exact g_127053 D _ _ _ _ _ _ _ _ _ _ _ _
    · rfl
  rfl
noncomputable def F_128 (D : Nat) (rec : Run) (a : List MV) (i : List Obj) : Option Res := match a, i with
  | [.sl r1, .fn 41 []], [] => G_128041 rec r1
  | a, i => ev E LL (D + 1) 128 a i
theorem f_128 (D : Nat) (a : List MV) (i : List Obj) : F_128 D (ev E LL D) a i = ev E LL (D + 1) 128 a i := by
  unfold F_128
  split
  · exact g_128041 D _
  · rfl
noncomputable def F_129 (D : Nat) (rec : Run) (a : List MV) (i : List Obj) : Option Res := match a, i with
  | [.sl r1, .fn 44 [.ptr (.imp 0) 0]], [.cells [.sl r2, .sl r3, .sl r4, .sl r5, .sl r6, .sl r7, .sl r8, .sl r9, .sl r10, .sl r11]] => G_129044 rec r1 r2 r3 r4 r5 r6 r7 r8 r9 r10 r11
  | a, i => ev E LL (D + 1) 129 a i
theorem f_129 (D : Nat) (a : List MV) (i : List Obj) : F_129 D (ev E LL D) a i = ev E LL (D + 1) 129 a i := by
  unfold F_129
  split
  · exact g_129044 D _ _ _ _ _ _ _ _ _ _ _
  · rfl
noncomputable def F_148 (D : Nat) (rec : Run) (a : List MV) (i : List Obj) : Option Res := match a, i with
  | [.agg [.bool b1, .int .i64 n2, .sl r3, .sl r4, .int .i64 n5, .str s6, .str s7], .str s8, .int .i64 n9, .int .i64 n10, .str s11, .str s12], [] => G_148 rec b1 n2 r3 r4 n5 s6 s7 s8 n9 n10 s11 s12
  | a, i => ev E LL (D + 1) 148 a i
theorem f_148 (D : Nat) (a : List MV) (i : List Obj) : F_148 D (ev E LL D) a i = ev E LL (D + 1) 148 a i := by
  unfold F_148
  split
  · exact g_148 D _ _ _ _ _ _ _ _ _ _ _ _
  · rfl
noncomputable def F_149 (D : Nat) (rec : Run) (a : List MV) (i : List Obj) : Option Res := match a, i with
  | [.agg [.bool b1, .int .i64 n2, .sl r3, .sl r4, .int .i64 n5, .str s6, .str s7], .agg [.int .i64 n8, .str s9, .str s10, .int .i64 n11, .int .i64 n12, .str s13, .sl r14, .sl r15, .str s16, .str s17, .str s18, .str s19, .str s20]], [] => G_149 rec b1 n2 r3 r4 n5 s6 s7 n8 s9 s10 n11 n12 s13 r14 r15 s16 s17 s18 s19 s20
  | a, i => ev E LL (D + 1) 149 a i
theorem f_149 (D : Nat) (a : List MV) (i : List Obj) : F_149 D (ev E LL D) a i = ev E LL (D + 1) 149 a i := by
  unfold F_149
  split
  · exact g_149 D _ _ _ _ _ _ _ _ _ _ _ _ _ _ _ _ _ _ _ _
  · rfl
noncomputable def F_150 (D : Nat) (rec : Run) (a : List MV) (i : List Obj) : Option Res := if fnOf a = 102 then (match a, i with
  | [.sl r1, .fn 102 []], [] => G_150102 rec r1
  | a, i => ev E LL (D + 1) 150 a i) else if fnOf a = 151 then (match a, i with
  | [.sl r1, .fn 151 [.ptr (.imp 0) 0]], [.cells [.bool b2, .int .i64 n3, .sl r4, .sl r5, .int .i64 n6, .str s7, .str s8]] => G_150151 rec r1 b2 n3 r4 r5 n6 s7 s8
  | a, i => ev E LL (D + 1) 150 a i) else ev E LL (D + 1) 150 a i
theorem f_150 (D : Nat) (a : List MV) (i : List Obj) : F_150 D (ev E LL D) a i = ev E LL (D + 1) 150 a i := by
  unfold F_150
  split
  · split
    · exact g_150102 D _
    · rfl
  split
  · split
    · exact g_150151 D _ _ _ _ _ _ _ _
    · rfl
  rfl
noncomputable def F_151 (D : Nat) (rec : Run) (a : List MV) (i : List Obj) : Option Res := match a, i with
  | [.agg [.str s1, .str s2], .ptr (.imp 0) 0], [.cells [.bool b3, .int .i64 n4, .sl r5, .sl r6, .int .i64 n7, .str s8, .str s9]] => G_151 rec s1 s2 b3 n4 r5 r6 n7 s8 s9
  | a, i => ev E LL (D + 1) 151 a i
theorem f_151 (D : Nat) (a : List MV) (i : List Obj) : F_151 D (ev E LL D) a i = ev E LL (D + 1) 151 a i := by
  unfold F_151
  split
  · exact g_151 D _ _ _ _ _ _ _ _ _
  · rfl
noncomputable def F_152 (D : Nat) (rec : Run) (a : List MV) (i : List Obj) : Option Res := if fnOf a = 153 then (match a, i with
  | [.sl r1, .fn 153 [.ptr (.imp 0) 0]], [.cells [.str s2, .str s3]] => G_152153 rec r1 s2 s3
  | a, i => ev E LL (D + 1) 152 a i) else if fnOf a = 181 then (match a, i with
  | [.sl r1, .fn 181 [.ptr (.imp 0) 0]], [.cells [.sl r2]] => G_152181 rec r1 r2
  | a, i => ev E LL (D + 1) 152 a i) else ev E LL (D + 1) 152 a i
theorem f_152 (D : Nat) (a : List MV) (i : List Obj) : F_152 D (ev E LL D) a i = ev E LL (D + 1) 152 a i := by
  unfold F_152
  split
  · split
    · exact g_152153 D _ _ _
    · rfl
  split
  · split
    · exact g_152181 D _ _
    · rfl
  rfl
noncomputable def F_153 (D : Nat) (rec : Run) (a : List MV) (i : List Obj) : Option Res := match a, i with
  | [.agg [.int .i64 n1, .str s2], .ptr (.imp 0) 0], [.cells [.str s3, .str s4]] => G_153 rec n1 s2 s3 s4
  | a, i => ev E LL (D + 1) 153 a i
theorem f_153 (D : Nat) (a : List MV) (i : List Obj) : F_153 D (ev E LL D) a i = ev E LL (D + 1) 153 a i := by
  unfold F_153
  split
  · exact g_153 D _ _ _ _
  · rfl
noncomputable def F_154 (D : Nat) (rec : Run) (a : List MV) (i : List Obj) : Option Res := match a, i with
  | [.int .i64 n1], [] => G_154 rec n1
  | a, i => ev E LL (D + 1) 154 a i
theorem f_154 (D : Nat) (a : List MV) (i : List Obj) : F_154 D (ev E LL D) a i = ev E LL (D + 1) 154 a i := by
  unfold F_154
  split
  · exact g_154 D _
  · rfl
noncomputable def F_155 (D : Nat) (rec : Run) (a : List MV) (i : List Obj) : Option Res := match a, i with
  | [.int .i64 n1, .int .i64 n2], [] => G_155 rec n1 n2
  | a, i => ev E LL (D + 1) 155 a i
theorem f_155 (D : Nat) (a : List MV) (i : List Obj) : F_155 D (ev E LL D) a i = ev E LL (D + 1) 155 a i := by
  unfold F_155
  split
  · exact g_155 D _ _
  · rfl
noncomputable def F_156 (D : Nat) (rec : Run) (a : List MV) (i : List Obj) : Option Res := match a, i with
  | [.sl r1, .sl r2], [] => G_156 rec r1 r2
  | a, i => ev E LL (D + 1) 156 a i
theorem f_156 (D : Nat) (a : List MV) (i : List Obj) : F_156 D (ev E LL D) a i = ev E LL (D + 1) 156 a i := by
  unfold F_156
  split
  · exact g_156 D _ _
  · rfl
noncomputable def F_157 (D : Nat) (rec : Run) (a : List MV) (i : List Obj) : Option Res := match a, i with
  | [.sl r1, .int .i64 n2], [] => G_157 rec r1 n2
  | a, i => ev E LL (D + 1) 157 a i
theorem f_157 (D : Nat) (a : List MV) (i : List Obj) : F_157 D (ev E LL D) a i = ev E LL (D + 1) 157 a i := by
  unfold F_157
  split
  · exact g_157 D _ _
  · rfl
noncomputable def F_158 (D : Nat) (rec : Run) (a : List MV) (i : List Obj) : Option Res := match a, i with
  | [.str s1, .str s2], [] => G_158 rec s1 s2
  | a, i => ev E LL (D + 1) 158 a i
theorem f_158 (D : Nat) (a : List MV) (i : List Obj) : F_158 D (ev E LL D) a i = ev E LL (D + 1) 158 a i := by
  unfold F_158
  split
  · exact g_158 D _ _
  · rfl
noncomputable def F_159 (D : Nat) (rec : Run) (a : List MV) (i : List Obj) : Option Res := match a, i with
  | [.str s1], [] => G_159 rec s1
  | a, i => ev E LL (D + 1) 159 a i
theorem f_159 (D : Nat) (a : List MV) (i : List Obj) : F_159 D (ev E LL D) a i = ev E LL (D + 1) 159 a i := by
  unfold F_159
  split
  · exact g_159 D _
  · rfl
noncomputable def F_160 (D : Nat) (rec : Run) (a : List MV) (i : List Obj) : Option Res := match a, i with
  | [.int .i64 n1, .str s2, .str s3, .agg [.int .i64 n4, .str s5, .str s6, .int .i64 n7, .int .i64 n8, .str s9, .sl r10, .sl r11, .str s12, .str s13, .str s14, .str s15, .str s16]], [] => G_160 rec n1 s2 s3 n4 s5 s6 n7 n8 s9 r10 r11 s12 s13 s14 s15 s16
  | a, i => ev E LL (D + 1) 160 a i
theorem f_160 (D : Nat) (a : List MV) (i : List Obj) : F_160 D (ev E LL D) a i = ev E LL (D + 1) 160 a i := by
  unfold F_160
  split
  · exact g_160 D _ _ _ _ _ _ _ _ _ _ _ _ _ _ _ _
  · rfl
noncomputable def F_164 (D : Nat) (rec : Run) (a : List MV) (i : List Obj) : Option Res := match a, i with
  | [.str s1, .str s2], [] => G_164 rec s1 s2
  | a, i => ev E LL (D + 1) 164 a i
theorem f_164 (D : Nat) (a : List MV) (i : List Obj) : F_164 D (ev E LL D) a i = ev E LL (D + 1) 164 a i := by
  unfold F_164
  split
  · exact g_164 D _ _
  · rfl
noncomputable def F_165 (D : Nat) (rec : Run) (a : List MV) (i : List Obj) : Option Res := match a, i with
  | [.str s1, .str s2], [] => G_165 rec s1 s2
  | a, i => ev E LL (D + 1) 165 a i
theorem f_165 (D : Nat) (a : List MV) (i : List Obj) : F_165 D (ev E LL D) a i = ev E LL (D + 1) 165 a i := by
  unfold F_165
  split
  · exact g_165 D _ _
  · rfl
noncomputable def F_167 (D : Nat) (rec : Run) (a : List MV) (i : List Obj) : Option Res := match a, i with
  | [.int .i64 n1], [] => G_167 rec n1
  | a, i => ev E LL (D + 1) 167 a i
theorem f_167 (D : Nat) (a : List MV) (i : List Obj) : F_167 D (ev E LL D) a i = ev E LL (D + 1) 167 a i := by
  unfold F_167
  split
  · exact g_167 D _
  · rfl
noncomputable def F_170 (D : Nat) (rec : Run) (a : List MV) (i : List Obj) : Option Res := match a, i with
  | [.str s1], [] => G_170 rec s1
  | a, i => ev E LL (D + 1) 170 a i
theorem f_170 (D : Nat) (a : List MV) (i : List Obj) : F_170 D (ev E LL D) a i = ev E LL (D + 1) 170 a i := by
  unfold F_170
  split
  · exact g_170 D _
  · rfl
noncomputable def F_171 (D : Nat) (rec : Run) (a : List MV) (i : List Obj) : Option Res := match a, i with
  | [.str s1], [] => G_171 rec s1
  | a, i => ev E LL (D + 1) 171 a i
theorem f_171 (D : Nat) (a : List MV) (i : List Obj) : F_171 D (ev E LL D) a i = ev E LL (D + 1) 171 a i := by
  unfold F_171
  split
  · exact g_171 D _
  · rfl
noncomputable def F_176 (D : Nat) (rec : Run) (a : List MV) (i : List Obj) : Option Res := match a, i with
  | [.agg [.sl r1], .int .i64 n2, .int .i64 n3], [] => G_176 rec r1 n2 n3
  | a, i => ev E LL (D + 1) 176 a i
theorem f_176 (D : Nat) (a : List MV) (i : List Obj) : F_176 D (ev E LL D) a i = ev E LL (D + 1) 176 a i := by
  unfold F_176
  split
  · exact g_176 D _ _ _
  · rfl
noncomputable def F_177 (D : Nat) (rec : Run) (a : List MV) (i : List Obj) : Option Res := match a, i with
  | [.agg [.sl r1], .int .i64 n2, .int .i64 n3, .str s4], [] => G_177 rec r1 n2 n3 s4
  | a, i => ev E LL (D + 1) 177 a i
theorem f_177 (D : Nat) (a : List MV) (i : List Obj) : F_177 D (ev E LL D) a i = ev E LL (D + 1) 177 a i := by
  unfold F_177
  split
  · exact g_177 D _ _ _ _
  · rfl
noncomputable def F_178 (D : Nat) (rec : Run) (a : List MV) (i : List Obj) : Option Res := match a, i with
  | [.agg [.sl r1], .int .i64 n2], [] => G_178 rec r1 n2
  | a, i => ev E LL (D + 1) 178 a i
theorem f_178 (D : Nat) (a : List MV) (i : List Obj) : F_178 D (ev E LL D) a i = ev E LL (D + 1) 178 a i := by
  unfold F_178
  split
  · exact g_178 D _ _
  · rfl
noncomputable def F_179 (D : Nat) (rec : Run) (a : List MV) (i : List Obj) : Option Res := match a, i with
  | [.int .i64 n1], [] => G_179 rec n1
  | a, i => ev E LL (D + 1) 179 a i
theorem f_179 (D : Nat) (a : List MV) (i : List Obj) : F_179 D (ev E LL D) a i = ev E LL (D + 1) 179 a i := by
  unfold F_179
  split
  · exact g_179 D _
  · rfl
noncomputable def F_180 (D : Nat) (rec : Run) (a : List MV) (i : List Obj) : Option Res := match a, i with
  | [.sl r1, .int .i64 n2], [] => G_180 rec r1 n2
  | a, i => ev E LL (D + 1) 180 a i
theorem f_180 (D : Nat) (a : List MV) (i : List Obj) : F_180 D (ev E LL D) a i = ev E LL (D + 1) 180 a i := by
  unfold F_180
  split
  · exact g_180 D _ _
  · rfl
noncomputable def F_181 (D : Nat) (rec : Run) (a : List MV) (i : List Obj) : Option Res := match a, i with
  | [.agg [.int .i64 n1, .str s2], .ptr (.imp 0) 0], [.cells [.sl r3]] => G_181 rec n1 s2 r3
  | a, i => ev E LL (D + 1) 181 a i
theorem f_181 (D : Nat) (a : List MV) (i : List Obj) : F_181 D (ev E LL D) a i = ev E LL (D + 1) 181 a i := by
  unfold F_181
  split
  · exact g_181 D _ _ _
  · rfl
noncomputable def F_195 (D : Nat) (rec : Run) (a : List MV) (i : List Obj) : Option Res := match a, i with
  | [.agg [.sl r1], .int .i64 n2], [] => G_195 rec r1 n2
  | a, i => ev E LL (D + 1) 195 a i
theorem f_195 (D : Nat) (a : List MV) (i : List Obj) : F_195 D (ev E LL D) a i = ev E LL (D + 1) 195 a i := by
  unfold F_195
  split
  · exact g_195 D _ _
  · rfl
noncomputable def St (D : Nat) (rec : Run) (f : FuncId) (a : List MV) (i : List Obj) : Option Res := match E.ext f with | some q => (q a).map fun m => (m, i) | none => (bif Nat.blt f 74 then (bif Nat.blt f 35 then (bif Nat.blt f 19 then (bif Nat.blt f 11 then (bif Nat.blt f 7 then (bif Nat.blt f 5 then (if f = 4 then F_4 D rec a i else ev E LL (D + 1) f a i) else (bif Nat.blt f 6 then (if f = 5 then F_5 D rec a i else ev E LL (D + 1) f a i) else (if f = 6 then F_6 D rec a i else ev E LL (D + 1) f a i))) else (bif Nat.blt f 9 then (bif Nat.blt f 8 then (if f = 7 then F_7 D rec a i else ev E LL (D + 1) f a i) else (if f = 8 then F_8 D rec a i else ev E LL (D + 1) f a i)) else (bif Nat.blt f 10 then (if f = 9 then F_9 D rec a i else ev E LL (D + 1) f a i) else (if f = 10 then F_10 D rec a i else ev E LL (D + 1) f a i)))) else (bif Nat.blt f 15 then (bif Nat.blt f 13 then (bif Nat.blt f 12 then (if f = 11 then F_11 D rec a i else ev E LL (D + 1) f a i) else (if f = 12 then F_12 D rec a i else ev E LL (D + 1) f a i)) else (bif Nat.blt f 14 then (if f = 13 then F_13 D rec a i else ev E LL (D + 1) f a i) else (if f = 14 then F_14 D rec a i else ev E LL (D + 1) f a i))) else (bif Nat.blt f 17 then (bif Nat.blt f 16 then (if f = 15 then F_15 D rec a i else ev E LL (D + 1) f a i) else (if f = 16 then F_16 D rec a i else ev E LL (D + 1) f a i)) else (bif Nat.blt f 18 then (if f = 17 then F_17 D rec a i else ev E LL (D + 1) f a i) else (if f = 18 then F_18 D rec a i else ev E LL (D + 1) f a i))))) else (bif Nat.blt f 27 then (bif Nat.blt f 23 then (bif Nat.blt f 21 then (bif Nat.blt f 20 then (if f = 19 then F_19 D rec a i else ev E LL (D + 1) f a i) else (if f = 20 then F_20 D rec a i else ev E LL (D + 1) f a i)) else (bif Nat.blt f 22 then (if f = 21 then F_21 D rec a i else ev E LL (D + 1) f a i) else (if f = 22 then F_22 D rec a i else ev E LL (D + 1) f a i))) else (bif Nat.blt f 25 then (bif Nat.blt f 24 then (if f = 23 then F_23 D rec a i else ev E LL (D + 1) f a i) else (if f = 24 then F_24 D rec a i else ev E LL (D + 1) f a i)) else (bif Nat.blt f 26 then (if f = 25 then F_25 D rec a i else ev E LL (D + 1) f a i) else (if f = 26 then F_26 D rec a i else ev E LL (D + 1) f a i)))) else (bif Nat.blt f 31 then (bif Nat.blt f 29 then (bif Nat.blt f 28 then (if f = 27 then F_27 D rec a i else ev E LL (D + 1) f a i) else (if f = 28 then F_28 D rec a i else ev E LL (D + 1) f a i)) else (bif Nat.blt f 30 then (if f = 29 then F_29 D rec a i else ev E LL (D + 1) f a i) else (if f = 30 then F_30 D rec a i else ev E LL (D + 1) f a i))) else (bif Nat.blt f 33 then (bif Nat.blt f 32 then (if f = 31 then F_31 D rec a i else ev E LL (D + 1) f a i) else (if f = 32 then F_32 D rec a i else ev E LL (D + 1) f a i)) else (bif Nat.blt f 34 then (if f = 33 then F_33 D rec a i else ev E LL (D + 1) f a i) else (if f = 34 then F_34 D rec a i else ev E LL (D + 1) f a i)))))) else (bif Nat.blt f 55 then (bif Nat.blt f 47 then (bif Nat.blt f 38 then (bif Nat.blt f 36 then (if f = 35 then F_35 D rec a i else ev E LL (D + 1) f a i) else (bif Nat.blt f 37 then (if f = 36 then F_36 D rec a i else ev E LL (D + 1) f a i) else (if f = 37 then F_37 D rec a i else ev E LL (D + 1) f a i))) else (bif Nat.blt f 40 then (bif Nat.blt f 39 then (if f = 38 then F_38 D rec a i else ev E LL (D + 1) f a i) else (if f = 39 then F_39 D rec a i else ev E LL (D + 1) f a i)) else (bif Nat.blt f 43 then (if f = 40 then F_40 D rec a i else ev E LL (D + 1) f a i) else (if f = 43 then F_43 D rec a i else ev E LL (D + 1) f a i)))) else (bif Nat.blt f 51 then (bif Nat.blt f 49 then (bif Nat.blt f 48 then (if f = 47 then F_47 D rec a i else ev E LL (D + 1) f a i) else (if f = 48 then F_48 D rec a i else ev E LL (D + 1) f a i)) else (bif Nat.blt f 50 then (if f = 49 then F_49 D rec a i else ev E LL (D + 1) f a i) else (if f = 50 then F_50 D rec a i else ev E LL (D + 1) f a i))) else (bif Nat.blt f 53 then (bif Nat.blt f 52 then (if f = 51 then F_51 D rec a i else ev E LL (D + 1) f a i) else (if f = 52 then F_52 D rec a i else ev E LL (D + 1) f a i)) else (bif Nat.blt f 54 then (if f = 53 then F_53 D rec a i else ev E LL (D + 1) f a i) else (if f = 54 then F_54 D rec a i else ev E LL (D + 1) f a i))))) else (bif Nat.blt f 64 then (bif Nat.blt f 59 then (bif Nat.blt f 57 then (bif Nat.blt f 56 then (if f = 55 then F_55 D rec a i else ev E LL (D + 1) f a i) else (if f = 56 then F_56 D rec a i else ev E LL (D + 1) f a i)) else (bif Nat.blt f 58 then (if f = 57 then F_57 D rec a i else ev E LL (D + 1) f a i) else (if f = 58 then F_58 D rec a i else ev E LL (D + 1) f a i))) else (bif Nat.blt f 61 then (bif Nat.blt f 60 then (if f = 59 then F_59 D rec a i else ev E LL (D + 1) f a i) else (if f = 60 then F_60 D rec a i else ev E LL (D + 1) f a i)) else (bif Nat.blt f 63 then (if f = 61 then F_61 D rec a i else ev E LL (D + 1) f a i) else (if f = 63 then F_63 D rec a i else ev E LL (D + 1) f a i)))) else (bif Nat.blt f 68 then (bif Nat.blt f 66 then (bif Nat.blt f 65 then (if f = 64 then F_64 D rec a i else ev E LL (D + 1) f a i) else (if f = 65 then F_65 D rec a i else ev E LL (D + 1) f a i)) else (bif Nat.blt f 67 then (if f = 66 then F_66 D rec a i else ev E LL (D + 1) f a i) else (if f = 67 then F_67 D rec a i else ev E LL (D + 1) f a i))) else (bif Nat.blt f 72 then (bif Nat.blt f 71 then (if f = 68 then F_68 D rec a i else ev E LL (D + 1) f a i) else (if f = 71 then F_71 D rec a i else ev E LL (D + 1) f a i)) else (bif Nat.blt f 73 then (if f = 72 then F_72 D rec a i else ev E LL (D + 1) f a i) else (if f = 73 then F_73 D rec a i else ev E LL (D + 1) f a i))))))) else (bif Nat.blt f 124 then (bif Nat.blt f 104 then (bif Nat.blt f 94 then (bif Nat.blt f 77 then (bif Nat.blt f 75 then (if f = 74 then F_74 D rec a i else ev E LL (D + 1) f a i) else (bif Nat.blt f 76 then (if f = 75 then F_75 D rec a i else ev E LL (D + 1) f a i) else (if f = 76 then F_76 D rec a i else ev E LL (D + 1) f a i))) else (bif Nat.blt f 80 then (bif Nat.blt f 78 then (if f = 77 then F_77 D rec a i else ev E LL (D + 1) f a i) else (if f = 78 then F_78 D rec a i else ev E LL (D + 1) f a i)) else (bif Nat.blt f 93 then (if f = 80 then F_80 D rec a i else ev E LL (D + 1) f a i) else (if f = 93 then F_93 D rec a i else ev E LL (D + 1) f a i)))) else (bif Nat.blt f 100 then (bif Nat.blt f 96 then (bif Nat.blt f 95 then (if f = 94 then F_94 D rec a i else ev E LL (D + 1) f a i) else (if f = 95 then F_95 D rec a i else ev E LL (D + 1) f a i)) else (bif Nat.blt f 97 then (if f = 96 then F_96 D rec a i else ev E LL (D + 1) f a i) else (if f = 97 then F_97 D rec a i else ev E LL (D + 1) f a i))) else (bif Nat.blt f 102 then (bif Nat.blt f 101 then (if f = 100 then F_100 D rec a i else ev E LL (D + 1) f a i) else (if f = 101 then F_101 D rec a i else ev E LL (D + 1) f a i)) else (bif Nat.blt f 103 then (if f = 102 then F_102 D rec a i else ev E LL (D + 1) f a i) else (if f = 103 then F_103 D rec a i else ev E LL (D + 1) f a i))))) else (bif Nat.blt f 113 then (bif Nat.blt f 109 then (bif Nat.blt f 107 then (bif Nat.blt f 105 then (if f = 104 then F_104 D rec a i else ev E LL (D + 1) f a i) else (if f = 105 then F_105 D rec a i else ev E LL (D + 1) f a i)) else (bif Nat.blt f 108 then (if f = 107 then F_107 D rec a i else ev E LL (D + 1) f a i) else (if f = 108 then F_108 D rec a i else ev E LL (D + 1) f a i))) else (bif Nat.blt f 111 then (bif Nat.blt f 110 then (if f = 109 then F_109 D rec a i else ev E LL (D + 1) f a i) else (if f = 110 then F_110 D rec a i else ev E LL (D + 1) f a i)) else (bif Nat.blt f 112 then (if f = 111 then F_111 D rec a i else ev E LL (D + 1) f a i) else (if f = 112 then F_112 D rec a i else ev E LL (D + 1) f a i)))) else (bif Nat.blt f 118 then (bif Nat.blt f 116 then (bif Nat.blt f 115 then (if f = 113 then F_113 D rec a i else ev E LL (D + 1) f a i) else (if f = 115 then F_115 D rec a i else ev E LL (D + 1) f a i)) else (bif Nat.blt f 117 then (if f = 116 then F_116 D rec a i else ev E LL (D + 1) f a i) else (if f = 117 then F_117 D rec a i else ev E LL (D + 1) f a i))) else (bif Nat.blt f 120 then (bif Nat.blt f 119 then (if f = 118 then F_118 D rec a i else ev E LL (D + 1) f a i) else (if f = 119 then F_119 D rec a i else ev E LL (D + 1) f a i)) else (bif Nat.blt f 121 then (if f = 120 then F_120 D rec a i else ev E LL (D + 1) f a i) else (if f = 121 then F_121 D rec a i else ev E LL (D + 1) f a i)))))) else (bif Nat.blt f 157 then (bif Nat.blt f 149 then (bif Nat.blt f 127 then (bif Nat.blt f 125 then (if f = 124 then F_124 D rec a i else ev E LL (D + 1) f a i) else (bif Nat.blt f 126 then (if f = 125 then F_125 D rec a i else ev E LL (D + 1) f a i) else (if f = 126 then F_126 D rec a i else ev E LL (D + 1) f a i))) else (bif Nat.blt f 129 then (bif Nat.blt f 128 then (if f = 127 then F_127 D rec a i else ev E LL (D + 1) f a i) else (if f = 128 then F_128 D rec a i else ev E LL (D + 1) f a i)) else (bif Nat.blt f 148 then (if f = 129 then F_129 D rec a i else ev E LL (D + 1) f a i) else (if f = 148 then F_148 D rec a i else ev E LL (D + 1) f a i)))) else (bif Nat.blt f 153 then (bif Nat.blt f 151 then (bif Nat.blt f 150 then (if f = 149 then F_149 D rec a i else ev E LL (D + 1) f a i) else (if f = 150 then F_150 D rec a i else ev E LL (D + 1) f a i)) else (bif Nat.blt f 152 then (if f = 151 then F_151 D rec a i else ev E LL (D + 1) f a i) else (if f = 152 then F_152 D rec a i else ev E LL (D + 1) f a i))) else (bif Nat.blt f 155 then (bif Nat.blt f 154 then (if f = 153 then F_153 D rec a i else ev E LL (D + 1) f a i) else (if f = 154 then F_154 D rec a i else ev E LL (D + 1) f a i)) else (bif Nat.blt f 156 then (if f = 155 then F_155 D rec a i else ev E LL (D + 1) f a i) else (if f = 156 then F_156 D rec a i else ev E LL (D + 1) f a i))))) else (bif Nat.blt f 171 then (bif Nat.blt f 164 then (bif Nat.blt f 159 then (bif Nat.blt f 158 then (if f = 157 then F_157 D rec a i else ev E LL (D + 1) f a i) else (if f = 158 then F_158 D rec a i else ev E LL (D + 1) f a i)) else (bif Nat.blt f 160 then (if f = 159 then F_159 D rec a i else ev E LL (D + 1) f a i) else (if f = 160 then F_160 D rec a i else ev E LL (D + 1) f a i))) else (bif Nat.blt f 167 then (bif Nat.blt f 165 then (if f = 164 then F_164 D rec a i else ev E LL (D + 1) f a i) else (if f = 165 then F_165 D rec a i else ev E LL (D + 1) f a i)) else (bif Nat.blt f 170 then (if f = 167 then F_167 D rec a i else ev E LL (D + 1) f a i) else (if f = 170 then F_170 D rec a i else ev E LL (D + 1) f a i)))) else (bif Nat.blt f 179 then (bif Nat.blt f 177 then (bif Nat.blt f 176 then (if f = 171 then F_171 D rec a i else ev E LL (D + 1) f a i) else (if f = 176 then F_176 D rec a i else ev E LL (D + 1) f a i)) else (bif Nat.blt f 178 then (if f = 177 then F_177 D rec a i else ev E LL (D + 1) f a i) else (if f = 178 then F_178 D rec a i else ev E LL (D + 1) f a i))) else (bif Nat.blt f 181 then (bif Nat.blt f 180 then (if f = 179 then F_179 D rec a i else ev E LL (D + 1) f a i) else (if f = 180 then F_180 D rec a i else ev E LL (D + 1) f a i)) else (bif Nat.blt f 195 then (if f = 181 then F_181 D rec a i else ev E LL (D + 1) f a i) else (if f = 195 then F_195 D rec a i else ev E LL (D + 1) f a i))))))))
noncomputable def FF (D : Nat) : Run := Nat.rec (motive := fun _ => Run) (fun _ _ _ => none) (fun D rec f a i => St D rec f a i) D
theorem cond_eq {α : Type} {b : Bool} {x y z : α} (h1 : x = z) (h2 : y = z) : (bif b then x else y) = z := by cases b; exact h2; exact h1
theorem leaf_eq {D : Nat} {k f : FuncId} {a : List MV} {i : List Obj} {x : Option Res} (h : x = ev E LL (D + 1) k a i) : (if f = k then x else ev E LL (D + 1) f a i) = ev E LL (D + 1) f a i := by
  split
  · rename_i e; subst e; exact h
  · rfl
theorem St_eq (D : Nat) (f : FuncId) (a : List MV) (i : List Obj) : St D (ev E LL D) f a i = ev E LL (D + 1) f a i := by
  unfold St
  cases h : E.ext f with
  | some q => unfold ev; simp only [h]
  | none => exact (cond_eq (cond_eq (cond_eq (cond_eq (cond_eq (cond_eq (leaf_eq (f_4 D a i)) (cond_eq (leaf_eq (f_5 D a i)) (leaf_eq (f_6 D a i)))) (cond_eq (cond_eq (leaf_eq (f_7 D a i)) (leaf_eq (f_8 D a i))) (cond_eq (leaf_eq (f_9 D a i)) (leaf_eq (f_10 D a i))))) (cond_eq (cond_eq (cond_eq (leaf_eq (f_11 D a i)) (leaf_eq (f_12 D a i))) (cond_eq (leaf_eq (f_13 D a i)) (leaf_eq (f_14 D a i)))) (cond_eq (cond_eq (leaf_eq (f_15 D a i)) (leaf_eq (f_16 D a i))) (cond_eq (leaf_eq (f_17 D a i)) (leaf_eq (f_18 D a i)))))) (cond_eq (cond_eq (cond_eq (cond_eq (leaf_eq (f_19 D a i)) (leaf_eq (f_20 D a i))) (cond_eq (leaf_eq (f_21 D a i)) (leaf_eq (f_22 D a i)))) (cond_eq (cond_eq (leaf_eq (f_23 D a i)) (leaf_eq (f_24 D a i))) (cond_eq (leaf_eq (f_25 D a i)) (leaf_eq (f_26 D a i))))) (cond_eq (cond_eq (cond_eq (leaf_eq (f_27 D a i)) (leaf_eq (f_28 D a i))) (cond_eq (leaf_eq (f_29 D a i)) (leaf_eq (f_30 D a i)))) (cond_eq (cond_eq (leaf_eq (f_31 D a i)) (leaf_eq (f_32 D a i))) (cond_eq (leaf_eq (f_33 D a i)) (leaf_eq (f_34 D a i))))))) (cond_eq (cond_eq (cond_eq (cond_eq (leaf_eq (f_35 D a i)) (cond_eq (leaf_eq (f_36 D a i)) (leaf_eq (f_37 D a i)))) (cond_eq (cond_eq (leaf_eq (f_38 D a i)) (leaf_eq (f_39 D a i))) (cond_eq (leaf_eq (f_40 D a i)) (leaf_eq (f_43 D a i))))) (cond_eq (cond_eq (cond_eq (leaf_eq (f_47 D a i)) (leaf_eq (f_48 D a i))) (cond_eq (leaf_eq (f_49 D a i)) (leaf_eq (f_50 D a i)))) (cond_eq (cond_eq (leaf_eq (f_51 D a i)) (leaf_eq (f_52 D a i))) (cond_eq (leaf_eq (f_53 D a i)) (leaf_eq (f_54 D a i)))))) (cond_eq (cond_eq (cond_eq (cond_eq (leaf_eq (f_55 D a i)) (leaf_eq (f_56 D a i))) (cond_eq (leaf_eq (f_57 D a i)) (leaf_eq (f_58 D a i)))) (cond_eq (cond_eq (leaf_eq (f_59 D a i)) (leaf_eq (f_60 D a i))) (cond_eq (leaf_eq (f_61 D a i)) (leaf_eq (f_63 D a i))))) (cond_eq (cond_eq (cond_eq (leaf_eq (f_64 D a i)) (leaf_eq (f_65 D a i))) (cond_eq (leaf_eq (f_66 D a i)) (leaf_eq (f_67 D a i)))) (cond_eq (cond_eq (leaf_eq (f_68 D a i)) (leaf_eq (f_71 D a i))) (cond_eq (leaf_eq (f_72 D a i)) (leaf_eq (f_73 D a i)))))))) (cond_eq (cond_eq (cond_eq (cond_eq (cond_eq (leaf_eq (f_74 D a i)) (cond_eq (leaf_eq (f_75 D a i)) (leaf_eq (f_76 D a i)))) (cond_eq (cond_eq (leaf_eq (f_77 D a i)) (leaf_eq (f_78 D a i))) (cond_eq (leaf_eq (f_80 D a i)) (leaf_eq (f_93 D a i))))) (cond_eq (cond_eq (cond_eq (leaf_eq (f_94 D a i)) (leaf_eq (f_95 D a i))) (cond_eq (leaf_eq (f_96 D a i)) (leaf_eq (f_97 D a i)))) (cond_eq (cond_eq (leaf_eq (f_100 D a i)) (leaf_eq (f_101 D a i))) (cond_eq (leaf_eq (f_102 D a i)) (leaf_eq (f_103 D a i)))))) (cond_eq (cond_eq (cond_eq (cond_eq (leaf_eq (f_104 D a i)) (leaf_eq (f_105 D a i))) (cond_eq (leaf_eq (f_107 D a i)) (leaf_eq (f_108 D a i)))) (cond_eq (cond_eq (leaf_eq (f_109 D a i)) (leaf_eq (f_110 D a i))) (cond_eq (leaf_eq (f_111 D a i)) (leaf_eq (f_112 D a i))))) (cond_eq (cond_eq (cond_eq (leaf_eq (f_113 D a i)) (leaf_eq (f_115 D a i))) (cond_eq (leaf_eq (f_116 D a i)) (leaf_eq (f_117 D a i)))) (cond_eq (cond_eq (leaf_eq (f_118 D a i)) (leaf_eq (f_119 D a i))) (cond_eq (leaf_eq (f_120 D a i)) (leaf_eq (f_121 D a i))))))) (cond_eq (cond_eq (cond_eq (cond_eq (leaf_eq (f_124 D a i)) (cond_eq (leaf_eq (f_125 D a i)) (leaf_eq (f_126 D a i)))) (cond_eq (cond_eq (leaf_eq (f_127 D a i)) (leaf_eq (f_128 D a i))) (cond_eq (leaf_eq (f_129 D a i)) (leaf_eq (f_148 D a i))))) (cond_eq (cond_eq (cond_eq (leaf_eq (f_149 D a i)) (leaf_eq (f_150 D a i))) (cond_eq (leaf_eq (f_151 D a i)) (leaf_eq (f_152 D a i)))) (cond_eq (cond_eq (leaf_eq (f_153 D a i)) (leaf_eq (f_154 D a i))) (cond_eq (leaf_eq (f_155 D a i)) (leaf_eq (f_156 D a i)))))) (cond_eq (cond_eq (cond_eq (cond_eq (leaf_eq (f_157 D a i)) (leaf_eq (f_158 D a i))) (cond_eq (leaf_eq (f_159 D a i)) (leaf_eq (f_160 D a i)))) (cond_eq (cond_eq (leaf_eq (f_164 D a i)) (leaf_eq (f_165 D a i))) (cond_eq (leaf_eq (f_167 D a i)) (leaf_eq (f_170 D a i))))) (cond_eq (cond_eq (cond_eq (leaf_eq (f_171 D a i)) (leaf_eq (f_176 D a i))) (cond_eq (leaf_eq (f_177 D a i)) (leaf_eq (f_178 D a i)))) (cond_eq (cond_eq (leaf_eq (f_179 D a i)) (leaf_eq (f_180 D a i))) (cond_eq (leaf_eq (f_181 D a i)) (leaf_eq (f_195 D a i)))))))))
theorem FF_eq : ∀ D : Nat, FF D = ev E LL D
  | 0 => by funext f a i; unfold ev; rfl
  | D + 1 => by
    funext f a i
    show St D (FF D) f a i = _
    rw [FF_eq D]; exact St_eq D f a i

end Kw
