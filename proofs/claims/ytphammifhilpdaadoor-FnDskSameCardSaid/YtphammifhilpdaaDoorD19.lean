import Derived.Test.YtphammifhilpdaaDoorD10
import Derived.Test.YtphammifhilpdaaDoorD18
import Derived.Test.YtphammifhilpdaaDoorD16
import Derived.Test.YtphammifhilpdaaDoorD11
namespace Kw
set_option linter.unusedVariables false
set_option linter.unusedSimpArgs false
set_option linter.unusedSectionVars false
open Go
/-- what is asked of a world here -/
structure WJ (w : World) : Prop where
  waitsL : w.waits.length ≤ 16
  seats8 : w.seats.length = 8
end Kw
namespace Kw
set_option linter.unusedVariables false
set_option linter.unusedSimpArgs false
set_option linter.unusedSectionVars false
open Go Go.Proofs
def mix (l : S) (n : Int) : Int := (ix l (n % l.length)).toNat * 131 + (ix l ((n * 7 + 3) % l.length)).toNat * 1117 + n * 29 + n / l.length * 53
def pick (l : S) (n k : Int) : Int := if k < 1 then 0 else if l = [] then 0 else if n < l.length then (ix l n).toNat % k else iXor .i64 (mix l n) (mix l n / 64) % k
theorem iXor_nn {a b : Int} (ha : 0 ≤ a ∧ a < 4611686018427387904) (hb : 0 ≤ b ∧ b < 4611686018427387904) : 0 ≤ iXor .i64 a b := by
  unfold iXor
  obtain ⟨a', rfl⟩ := Int.eq_ofNat_of_zero_le ha.1
  obtain ⟨b', rfl⟩ := Int.eq_ofNat_of_zero_le hb.1
  have h1 : (BitVec.ofInt IntKind.i64.bits (a' : Int) ^^^ BitVec.ofInt IntKind.i64.bits (b' : Int)).toNat = a' ^^^ b' := by
    show (BitVec.ofInt 64 (a' : Int) ^^^ BitVec.ofInt 64 (b' : Int)).toNat = _
    rw [BitVec.toNat_xor, BitVec.ofInt_natCast, BitVec.ofInt_natCast, BitVec.toNat_ofNat, BitVec.toNat_ofNat, Nat.mod_eq_of_lt (by omega), Nat.mod_eq_of_lt (by omega)]
  rw [h1]
  have h2 : a' ^^^ b' < 2 ^ 62 := Nat.xor_lt_two_pow (by omega) (by omega)
  rw [show IntKind.wrap .i64 ((a' ^^^ b' : Nat) : Int) = ((a' ^^^ b' : Nat) : Int) from wrap_i64 (by omega) (by omega)]
  omega
theorem pick_rng (l : S) (n : Int) {k : Int} (hk : 1 ≤ k) : 0 ≤ pick l n k ∧ pick l n k < k := by
  unfold pick
  rw [if_neg (by omega)]
  split
  · omega
  · split
    · exact ⟨Int.emod_nonneg _ (by omega), Int.emod_lt_of_pos _ (by omega)⟩
    · exact ⟨Int.emod_nonneg _ (by omega), Int.emod_lt_of_pos _ (by omega)⟩
theorem byte_rng (b : UInt8) : 0 ≤ (b.toNat : Int) ∧ (b.toNat : Int) ≤ 255 := by have := b.toNat_lt; omega
section
variable (L D : Nat)
theorem t_pick (l : S) (hl : l.length ≤ 2000) (n k : Int) (hn : 0 ≤ n ∧ n ≤ 1000000000) : ev E L (D + 1) 21 [.ptr (.imp 0) 0, .int .i64 k] [.cells [.sl (l.map rU), .int .i64 n]] =
    some (.int .i64 (pick l n k), [.cells [.sl (l.map rU), .int .i64 (n + 1)]]) := by
  rw [eq_21]
  have a1 : iAdd .i64 n 1 = n + 1 := iWrap_w (by omega) (by omega)
  have a2 : iSub .i64 (n + 1) 1 = n := (iWrap_w (by omega) (by omega)).trans (by omega)
  unfold pick
  by_cases hk : k < 1
  · simp only [bnd_some', bnd_none', br_true', br_false', gBool_b, gInt_i, gStr_s, gSl_r, gOwn_r, gRows_r, gMap_r, cellAt_zero, cellAt_succ, hdO_c, tlO_c, bNot_t, bNot_f, bNot_dec, bNot_bNot, br_bNot, len_rS, len_rI, len_rU, len_rO, len_rB, len_rM, len_rC, len_rF, len_rW, len_rWs, len_rWt, len_rSt, len_rT, len_rE, beq_self_eq_true, iEq_dec, iLt_dec, iLe_dec, bAnd_dec, bAnd_t, bAnd_f, bAnd_r, sLen_bs, sCat_bs, sEq_bs, sSub_ok, nrows_map, nrows_nil, nrows_one, nrows_cons, catR_map, catR_snoc, rowsStr_one, gTupN_if, gAggN_if, gCellsN_if, br_dec, br_eq, decide_true, decide_false, decide_eq_true_eq, if_true, if_false, ite_true, ite_false, true_and, and_true, false_and, and_false, not_true_eq_false, not_false_eq_true, Bool.false_eq_true, Bool.true_eq_false, reduceCtorEq, List.length_cons, List.length_nil, Int.reduceLE, Int.reduceLT, Int.reduceEq, Int.reduceNeg, Nat.reduceAdd, Int.toNat_natCast, okR_S, okR_I, okR_U, okR_O, okR_B, okR_M, okR_C, okR_F, okR_W, okR_Ws, okR_Wt, okR_St, okR_T, okR_E, okR_cons, okR_nil, Bool.and_self, iEq_self, ↓dec_selfI, ↓dec_selfS, a1, a2, hk]
  by_cases h0 : l = []
  · subst h0; simp only [bnd_some', bnd_none', br_true', br_false', gBool_b, gInt_i, gStr_s, gSl_r, gOwn_r, gRows_r, gMap_r, cellAt_zero, cellAt_succ, hdO_c, tlO_c, bNot_t, bNot_f, bNot_dec, bNot_bNot, br_bNot, len_rS, len_rI, len_rU, len_rO, len_rB, len_rM, len_rC, len_rF, len_rW, len_rWs, len_rWt, len_rSt, len_rT, len_rE, beq_self_eq_true, iEq_dec, iLt_dec, iLe_dec, bAnd_dec, bAnd_t, bAnd_f, bAnd_r, sLen_bs, sCat_bs, sEq_bs, sSub_ok, nrows_map, nrows_nil, nrows_one, nrows_cons, catR_map, catR_snoc, rowsStr_one, gTupN_if, gAggN_if, gCellsN_if, br_dec, br_eq, decide_true, decide_false, decide_eq_true_eq, if_true, if_false, ite_true, ite_false, true_and, and_true, false_and, and_false, not_true_eq_false, not_false_eq_true, Bool.false_eq_true, Bool.true_eq_false, reduceCtorEq, List.length_cons, List.length_nil, Int.reduceLE, Int.reduceLT, Int.reduceEq, Int.reduceNeg, Nat.reduceAdd, Int.toNat_natCast, okR_S, okR_I, okR_U, okR_O, okR_B, okR_M, okR_C, okR_F, okR_W, okR_Ws, okR_Wt, okR_St, okR_T, okR_E, okR_cons, okR_nil, Bool.and_self, iEq_self, ↓dec_selfI, ↓dec_selfS, a1, a2, hk, List.length_nil]; rfl
  have hl0 : 0 < l.length := by cases l with | nil => exact absurd rfl h0 | cons _ _ => simp
  have e0 : decide ((l.length : Int) = 0) = false := by rw [decide_eq_false_iff_not]; omega
  have ek : decide (k = 0) = false := by rw [decide_eq_false_iff_not]; omega
  have e64 : decide ((64 : Int) = 0) = false := rfl
  by_cases hlt : n < l.length
  · obtain ⟨b0, b1⟩ := byte_rng (ix l n)
    have w1 : iWrap .i64 ((ix l n).toNat : Int) = (ix l n).toNat := iWrap_w (by omega) (by omega)
    simp (disch := omega) only [bnd_some', bnd_none', br_true', br_false', gBool_b, gInt_i, gStr_s, gSl_r, gOwn_r, gRows_r, gMap_r, cellAt_zero, cellAt_succ, hdO_c, tlO_c, bNot_t, bNot_f, bNot_dec, bNot_bNot, br_bNot, len_rS, len_rI, len_rU, len_rO, len_rB, len_rM, len_rC, len_rF, len_rW, len_rWs, len_rWt, len_rSt, len_rT, len_rE, beq_self_eq_true, iEq_dec, iLt_dec, iLe_dec, bAnd_dec, bAnd_t, bAnd_f, bAnd_r, sLen_bs, sCat_bs, sEq_bs, sSub_ok, nrows_map, nrows_nil, nrows_one, nrows_cons, catR_map, catR_snoc, rowsStr_one, gTupN_if, gAggN_if, gCellsN_if, decide_true, decide_false, decide_eq_true_eq, if_true, if_false, ite_true, ite_false, true_and, and_true, false_and, and_false, not_true_eq_false, not_false_eq_true, Bool.false_eq_true, Bool.true_eq_false, reduceCtorEq, List.length_cons, List.length_nil, Int.reduceLE, Int.reduceLT, Int.reduceEq, Int.reduceNeg, Nat.reduceAdd, Int.toNat_natCast, okR_S, okR_I, okR_U, okR_O, okR_B, okR_M, okR_C, okR_F, okR_W, okR_Ws, okR_Wt, okR_St, okR_T, okR_E, okR_cons, okR_nil, Bool.and_self, iEq_self, ↓dec_selfI, ↓dec_selfS, c_S0, setRow_S, rowLen_S, cat1_S, rowAt_S, set_S, sub_S, rowZ_S, c_I0, setRow_I, rowLen_I, cat1_I, rowAt_I, set_I, sub_I, rowZ_I, c_U0, setRow_U, rowLen_U, cat1_U, rowAt_U, set_U, sub_U, rowZ_U, c_O0, c_O1, setRow_O, rowLen_O, cat1_O, rowAt_O, set_O, sub_O, rowZ_O, c_B0, c_B1, setRow_B, rowLen_B, cat1_B, rowAt_B, set_B, sub_B, rowZ_B, c_M0, c_M1, c_M2, c_M3, c_M4, c_M5, c_M6, setRow_M, rowLen_M, cat1_M, rowAt_M, set_M, sub_M, rowZ_M, c_C0, c_C1, c_C2, c_C3, c_C4, c_C5, c_C6, c_C7, c_C8, c_C9, c_C10, c_C11, c_C12, setRow_C, rowLen_C, cat1_C, rowAt_C, set_C, sub_C, rowZ_C, c_F0, c_F1, c_F2, c_F3, setRow_F, rowLen_F, cat1_F, rowAt_F, set_F, sub_F, rowZ_F, c_W0, c_W1, c_W2, setRow_W, rowLen_W, cat1_W, rowAt_W, set_W, sub_W, rowZ_W, c_Ws0, setRow_Ws, rowLen_Ws, cat1_Ws, rowAt_Ws, set_Ws, sub_Ws, rowZ_Ws, c_Wt0, c_Wt1, c_Wt2, c_Wt3, setRow_Wt, rowLen_Wt, cat1_Wt, rowAt_Wt, set_Wt, sub_Wt, rowZ_Wt, c_St0, c_St1, setRow_St, rowLen_St, cat1_St, rowAt_St, set_St, sub_St, rowZ_St, c_T0, c_T1, setRow_T, rowLen_T, cat1_T, rowAt_T, set_T, sub_T, rowZ_T, c_E0, c_E1, c_E2, c_E3, c_E4, c_E5, setRow_E, rowLen_E, cat1_E, rowAt_E, set_E, sub_E, rowZ_E, catR_nil, catR_nilr, setRow_O0, setRow_O1, setRow_B0, setRow_B1, setRow_M0, setRow_M1, setRow_M2, setRow_M3, setRow_M4, setRow_M5, setRow_M6, setRow_C0, setRow_C1, setRow_C2, setRow_C3, setRow_C4, setRow_C5, setRow_C6, setRow_C7, setRow_C8, setRow_C9, setRow_C10, setRow_C11, setRow_C12, setRow_F0, setRow_F1, setRow_F2, setRow_F3, setRow_W0, setRow_W1, setRow_W2, setRow_Wt0, setRow_Wt1, setRow_Wt2, setRow_Wt3, setRow_St0, setRow_St1, setRow_T0, setRow_T1, setRow_E0, setRow_E1, setRow_E2, setRow_E3, setRow_E4, setRow_E5, a1, a2, hk, e0, ek, h0, hlt, rowZ_U, w1, iRem_pos]
  · have m1 : 0 ≤ n % l.length := Int.emod_nonneg _ (by omega)
    have m2 : n % l.length < l.length := Int.emod_lt_of_pos _ (by omega)
    have m3 : 0 ≤ (n * 7 + 3) % l.length := Int.emod_nonneg _ (by omega)
    have m4 : (n * 7 + 3) % l.length < l.length := Int.emod_lt_of_pos _ (by omega)
    have q1 : 0 ≤ n / l.length := Int.ediv_nonneg (by omega) (by omega)
    have q2 : n / l.length ≤ n := Int.ediv_le_self _ (by omega)
    have r1 : iRem n l.length = n % l.length := iRem_pos (by omega)
    have r2 : iRem (n * 7 + 3) l.length = (n * 7 + 3) % l.length := iRem_pos (by omega)
    have u1 : iMul .i64 n 7 = n * 7 := iWrap_w (by omega) (by omega)
    have u2 : iAdd .i64 (n * 7) 3 = n * 7 + 3 := iWrap_w (by omega) (by omega)
    have q : iQuo .i64 n l.length = n / l.length := iQuo_pos (by omega) (by omega) (by omega)
    obtain ⟨b0, b1⟩ := byte_rng (ix l (n % l.length))
    obtain ⟨d0, d1⟩ := byte_rng (ix l ((n * 7 + 3) % l.length))
    have v1 : iWrap .i64 ((ix l (n % l.length)).toNat : Int) = (ix l (n % l.length)).toNat := iWrap_w (by omega) (by omega)
    have v2 : iWrap .i64 ((ix l ((n * 7 + 3) % l.length)).toNat : Int) = (ix l ((n * 7 + 3) % l.length)).toNat := iWrap_w (by omega) (by omega)
    have p1 : iMul .i64 ((ix l (n % l.length)).toNat : Int) 131 = (ix l (n % l.length)).toNat * 131 := iWrap_w (by omega) (by omega)
    have p2 : iMul .i64 ((ix l ((n * 7 + 3) % l.length)).toNat : Int) 1117 = (ix l ((n * 7 + 3) % l.length)).toNat * 1117 := iWrap_w (by omega) (by omega)
    have p3 : iMul .i64 n 29 = n * 29 := iWrap_w (by omega) (by omega)
    have p4 : iMul .i64 (n / l.length) 53 = n / l.length * 53 := iWrap_w (by omega) (by omega)
    have p5 : iAdd .i64 (((ix l (n % l.length)).toNat : Int) * 131) ((ix l ((n * 7 + 3) % l.length)).toNat * 1117) = (ix l (n % l.length)).toNat * 131 + (ix l ((n * 7 + 3) % l.length)).toNat * 1117 := iWrap_w (by omega) (by omega)
    have p6 : iAdd .i64 (((ix l (n % l.length)).toNat : Int) * 131 + (ix l ((n * 7 + 3) % l.length)).toNat * 1117) (n * 29) = (ix l (n % l.length)).toNat * 131 + (ix l ((n * 7 + 3) % l.length)).toNat * 1117 + n * 29 := iWrap_w (by omega) (by omega)
    have p7 : iAdd .i64 (((ix l (n % l.length)).toNat : Int) * 131 + (ix l ((n * 7 + 3) % l.length)).toNat * 1117 + n * 29) (n / l.length * 53) = mix l n := iWrap_w (by omega) (by omega)
    have g0 : 0 ≤ mix l n ∧ mix l n ≤ 100000000000000 := by unfold mix; omega
    have p8 : iQuo .i64 (mix l n) 64 = mix l n / 64 := iQuo_pos (by omega) (by omega) (by omega)
    have gx := @iXor_nn (mix l n) (mix l n / 64) (by omega) (by omega)
    have p9 : iRem (iXor .i64 (mix l n) (mix l n / 64)) k = iXor .i64 (mix l n) (mix l n / 64) % k := iRem_pos gx
    simp (disch := omega) only [bnd_some', bnd_none', br_true', br_false', gBool_b, gInt_i, gStr_s, gSl_r, gOwn_r, gRows_r, gMap_r, cellAt_zero, cellAt_succ, hdO_c, tlO_c, bNot_t, bNot_f, bNot_dec, bNot_bNot, br_bNot, len_rS, len_rI, len_rU, len_rO, len_rB, len_rM, len_rC, len_rF, len_rW, len_rWs, len_rWt, len_rSt, len_rT, len_rE, beq_self_eq_true, iEq_dec, iLt_dec, iLe_dec, bAnd_dec, bAnd_t, bAnd_f, bAnd_r, sLen_bs, sCat_bs, sEq_bs, sSub_ok, nrows_map, nrows_nil, nrows_one, nrows_cons, catR_map, catR_snoc, rowsStr_one, gTupN_if, gAggN_if, gCellsN_if, decide_true, decide_false, decide_eq_true_eq, if_true, if_false, ite_true, ite_false, true_and, and_true, false_and, and_false, not_true_eq_false, not_false_eq_true, Bool.false_eq_true, Bool.true_eq_false, reduceCtorEq, List.length_cons, List.length_nil, Int.reduceLE, Int.reduceLT, Int.reduceEq, Int.reduceNeg, Nat.reduceAdd, Int.toNat_natCast, okR_S, okR_I, okR_U, okR_O, okR_B, okR_M, okR_C, okR_F, okR_W, okR_Ws, okR_Wt, okR_St, okR_T, okR_E, okR_cons, okR_nil, Bool.and_self, iEq_self, ↓dec_selfI, ↓dec_selfS, c_S0, setRow_S, rowLen_S, cat1_S, rowAt_S, set_S, sub_S, rowZ_S, c_I0, setRow_I, rowLen_I, cat1_I, rowAt_I, set_I, sub_I, rowZ_I, c_U0, setRow_U, rowLen_U, cat1_U, rowAt_U, set_U, sub_U, rowZ_U, c_O0, c_O1, setRow_O, rowLen_O, cat1_O, rowAt_O, set_O, sub_O, rowZ_O, c_B0, c_B1, setRow_B, rowLen_B, cat1_B, rowAt_B, set_B, sub_B, rowZ_B, c_M0, c_M1, c_M2, c_M3, c_M4, c_M5, c_M6, setRow_M, rowLen_M, cat1_M, rowAt_M, set_M, sub_M, rowZ_M, c_C0, c_C1, c_C2, c_C3, c_C4, c_C5, c_C6, c_C7, c_C8, c_C9, c_C10, c_C11, c_C12, setRow_C, rowLen_C, cat1_C, rowAt_C, set_C, sub_C, rowZ_C, c_F0, c_F1, c_F2, c_F3, setRow_F, rowLen_F, cat1_F, rowAt_F, set_F, sub_F, rowZ_F, c_W0, c_W1, c_W2, setRow_W, rowLen_W, cat1_W, rowAt_W, set_W, sub_W, rowZ_W, c_Ws0, setRow_Ws, rowLen_Ws, cat1_Ws, rowAt_Ws, set_Ws, sub_Ws, rowZ_Ws, c_Wt0, c_Wt1, c_Wt2, c_Wt3, setRow_Wt, rowLen_Wt, cat1_Wt, rowAt_Wt, set_Wt, sub_Wt, rowZ_Wt, c_St0, c_St1, setRow_St, rowLen_St, cat1_St, rowAt_St, set_St, sub_St, rowZ_St, c_T0, c_T1, setRow_T, rowLen_T, cat1_T, rowAt_T, set_T, sub_T, rowZ_T, c_E0, c_E1, c_E2, c_E3, c_E4, c_E5, setRow_E, rowLen_E, cat1_E, rowAt_E, set_E, sub_E, rowZ_E, catR_nil, catR_nilr, setRow_O0, setRow_O1, setRow_B0, setRow_B1, setRow_M0, setRow_M1, setRow_M2, setRow_M3, setRow_M4, setRow_M5, setRow_M6, setRow_C0, setRow_C1, setRow_C2, setRow_C3, setRow_C4, setRow_C5, setRow_C6, setRow_C7, setRow_C8, setRow_C9, setRow_C10, setRow_C11, setRow_C12, setRow_F0, setRow_F1, setRow_F2, setRow_F3, setRow_W0, setRow_W1, setRow_W2, setRow_Wt0, setRow_Wt1, setRow_Wt2, setRow_Wt3, setRow_St0, setRow_St1, setRow_T0, setRow_T1, setRow_E0, setRow_E1, setRow_E2, setRow_E3, setRow_E4, setRow_E5, a1, a2, hk, e0, e64, ek, h0, hlt, r1, r2, u1, u2, q, rowZ_U, v1, v2, p1, p2, p3, p4, p5, p6, p7, p8, p9]
end
end Kw
namespace Kw
set_option linter.unusedVariables false
set_option linter.unusedSimpArgs false
set_option linter.unusedSectionVars false
open Go Go.Proofs
/-- an event, the reader further on, the world as it was -/
def Ge (l : S) (w : World) (n : Int) (x : Option (MV × List Obj)) : Prop := ∃ (e : Event) (n' : Int), (n ≤ n' ∧ n' ≤ n + 20) ∧
  x = some (.agg [.int .i64 e.kind, .int .i64 e.who, .int .i64 e.add, .int .i64 e.remove, .int .i64 e.pos, .str (bs e.text)], [.cells [.sl (l.map rU), .int .i64 n'], .rows (w.seats.map rM), .rows (w.waits.map rWt), .rows (w.log.map rC), .rows (w.fresh.map rI), .rows (w.spy.map rS), .rows (w.stolen.map rSt), .rows (w.frames.map rF), .rows (w.said.map rI), .rows (w.wins.map rWs), .rows (w.told.map rT)])
theorem ge_br {l : S} {w : World} {n : Int} {c : Bool} {a b : Option (MV × List Obj)} (ha : Ge l w n a) (hb : Ge l w n b) : Ge l w n (br c a b) := by cases c; exact hb; exact ha
theorem ge_leaf {l : S} {w : World} {n n' : Int} (a b c d e : Int) (t : S) (h : n ≤ n' ∧ n' ≤ n + 20) :
    Ge l w n (some (.agg [.int .i64 a, .int .i64 b, .int .i64 c, .int .i64 d, .int .i64 e, .str (bs t)], [.cells [.sl (l.map rU), .int .i64 n'], .rows (w.seats.map rM), .rows (w.waits.map rWt), .rows (w.log.map rC), .rows (w.fresh.map rI), .rows (w.spy.map rS), .rows (w.stolen.map rSt), .rows (w.frames.map rF), .rows (w.said.map rI), .rows (w.wins.map rWs), .rows (w.told.map rT)])) := ⟨⟨a, b, c, d, e, t⟩, n', h, rfl⟩
theorem ge_ite {l : S} {w : World} {n : Int} {c : Prop} [Decidable c] {a b : Option (MV × List Obj)} (ha : c → Ge l w n a) (hb : ¬ c → Ge l w n b) : Ge l w n (if c then a else b) := by
  split
  · exact ha ‹_›
  · exact hb ‹_›
/-- small tables -/
theorem tab3 (a b c : MV) (l : S) (n : Int) : rowZ 1 [[a], [b], [c]] (pick l n 3) = some [if pick l n 3 = 0 then a else if pick l n 3 = 1 then b else c] := by
  have := @pick_rng l n 3 (by omega)
  generalize pick l n 3 = k at *
  have h : k = 0 ∨ k = 1 ∨ k = 2 := by omega
  rcases h with rfl | rfl | rfl <;> rfl
theorem tab3a (a b c : MV) (l : S) (n : Int) : rowAt [[a], [b], [c]] (pick l n 3) = some [if pick l n 3 = 0 then a else if pick l n 3 = 1 then b else c] := by
  have := @pick_rng l n 3 (by omega)
  generalize pick l n 3 = k at *
  have h : k = 0 ∨ k = 1 ∨ k = 2 := by omega
  rcases h with rfl | rfl | rfl <;> rfl
theorem tab4 (a b c d : MV) (l : S) (n : Int) : rowZ 1 [[a], [b], [c], [d]] (pick l n 4) = some [if pick l n 4 = 0 then a else if pick l n 4 = 1 then b else if pick l n 4 = 2 then c else d] := by
  have := @pick_rng l n 4 (by omega)
  generalize pick l n 4 = k at *
  have h : k = 0 ∨ k = 1 ∨ k = 2 ∨ k = 3 := by omega
  rcases h with rfl | rfl | rfl | rfl <;> rfl
theorem tab4a (a b c d : MV) (l : S) (n : Int) : rowAt [[a], [b], [c], [d]] (pick l n 4) = some [if pick l n 4 = 0 then a else if pick l n 4 = 1 then b else if pick l n 4 = 2 then c else d] := by
  have := @pick_rng l n 4 (by omega)
  generalize pick l n 4 = k at *
  have h : k = 0 ∨ k = 1 ∨ k = 2 ∨ k = 3 := by omega
  rcases h with rfl | rfl | rfl | rfl <;> rfl
theorem gInt_ite {k : IntKind} {c : Prop} [Decidable c] {a : Int} {b : MV} : gInt k (if c then .int k a else b) = if c then some a else gInt k b := by split <;> first | rfl | simp [gInt]
theorem gInt_if3 (p q : Prop) [Decidable p] [Decidable q] (a b c : Int) : gInt .i64 (if p then .int .i64 a else if q then .int .i64 b else .int .i64 c) = some (if p then a else if q then b else c) := by
  split
  · rfl
  · split <;> rfl
theorem gStr_if3 (p q : Prop) [Decidable p] [Decidable q] (a b c : S) : gStr (if p then .str (bs a) else if q then .str (bs b) else .str (bs c)) = some (bs (if p then a else if q then b else c)) := by
  split
  · rfl
  · split <;> rfl
theorem gStr_if4 (p q r : Prop) [Decidable p] [Decidable q] [Decidable r] (a b c d : S) : gStr (if p then .str (bs a) else if q then .str (bs b) else if r then .str (bs c) else .str (bs d)) = some (bs (if p then a else if q then b else if r then c else d)) := by
  split
  · rfl
  · split
    · rfl
    · split <;> rfl
section
variable (L D : Nat)
theorem jp_Event (l : S) (hl : l.length ≤ 2000) (w : World) (z : WJ w) (n n0 : Int) (hn : 0 ≤ n ∧ n ≤ 1000000) (h0 : n0 ≤ n ∧ n ≤ n0 + 2) (i22 i23 i24 i25 i26 : Int) (s27 : ByteArray) (i28 i29 i30 i31 i32 : Int) (x : S) :
    Ge l w n0 (JP_19_7 L (D + 1) (w.seats.map rM) (w.waits.map rWt) (w.log.map rC) (w.fresh.map rI) (w.spy.map rS) (w.stolen.map rSt) (w.frames.map rF) (w.said.map rI) (w.wins.map rWs) (w.told.map rT) (l.map rU) n w.seats.length w.waits.length w.log.length w.fresh.length w.spy.length w.stolen.length w.frames.length w.said.length w.wins.length w.told.length i22 i23 i24 i25 i26 s27 i28 i29 i30 i31 i32 (bs x)) := by
  rw [JP_19_7_eq]
  have z1 : w.waits.length ≤ 16 := z.waitsL
  by_cases hw : w.waits.length = 0
  · have e0 : decide ((0 : Int) < w.waits.length) = false := by rw [decide_eq_false_iff_not]; omega
    simp (disch := omega) only [bnd_some', bnd_none', br_true', br_false', gBool_b, gInt_i, gStr_s, gSl_r, gOwn_r, gRows_r, gMap_r, cellAt_zero, cellAt_succ, hdO_c, tlO_c, bNot_t, bNot_f, bNot_dec, bNot_bNot, br_bNot, len_rS, len_rI, len_rU, len_rO, len_rB, len_rM, len_rC, len_rF, len_rW, len_rWs, len_rWt, len_rSt, len_rT, len_rE, beq_self_eq_true, iEq_dec, iLt_dec, iLe_dec, bAnd_dec, bAnd_t, bAnd_f, bAnd_r, sLen_bs, sCat_bs, sEq_bs, sSub_ok, nrows_map, nrows_nil, nrows_one, nrows_cons, catR_map, catR_snoc, rowsStr_one, gTupN_if, gAggN_if, gCellsN_if, decide_true, decide_false, decide_eq_true_eq, if_true, if_false, ite_true, ite_false, true_and, and_true, false_and, and_false, not_true_eq_false, not_false_eq_true, Bool.false_eq_true, Bool.true_eq_false, reduceCtorEq, List.length_cons, List.length_nil, Int.reduceLE, Int.reduceLT, Int.reduceEq, Int.reduceNeg, Nat.reduceAdd, Int.toNat_natCast, okR_S, okR_I, okR_U, okR_O, okR_B, okR_M, okR_C, okR_F, okR_W, okR_Ws, okR_Wt, okR_St, okR_T, okR_E, okR_cons, okR_nil, Bool.and_self, iEq_self, ↓dec_selfI, ↓dec_selfS, c_S0, setRow_S, rowLen_S, cat1_S, rowAt_S, set_S, sub_S, rowZ_S, c_I0, setRow_I, rowLen_I, cat1_I, rowAt_I, set_I, sub_I, rowZ_I, c_U0, setRow_U, rowLen_U, cat1_U, rowAt_U, set_U, sub_U, rowZ_U, c_O0, c_O1, setRow_O, rowLen_O, cat1_O, rowAt_O, set_O, sub_O, rowZ_O, c_B0, c_B1, setRow_B, rowLen_B, cat1_B, rowAt_B, set_B, sub_B, rowZ_B, c_M0, c_M1, c_M2, c_M3, c_M4, c_M5, c_M6, setRow_M, rowLen_M, cat1_M, rowAt_M, set_M, sub_M, rowZ_M, c_C0, c_C1, c_C2, c_C3, c_C4, c_C5, c_C6, c_C7, c_C8, c_C9, c_C10, c_C11, c_C12, setRow_C, rowLen_C, cat1_C, rowAt_C, set_C, sub_C, rowZ_C, c_F0, c_F1, c_F2, c_F3, setRow_F, rowLen_F, cat1_F, rowAt_F, set_F, sub_F, rowZ_F, c_W0, c_W1, c_W2, setRow_W, rowLen_W, cat1_W, rowAt_W, set_W, sub_W, rowZ_W, c_Ws0, setRow_Ws, rowLen_Ws, cat1_Ws, rowAt_Ws, set_Ws, sub_Ws, rowZ_Ws, c_Wt0, c_Wt1, c_Wt2, c_Wt3, setRow_Wt, rowLen_Wt, cat1_Wt, rowAt_Wt, set_Wt, sub_Wt, rowZ_Wt, c_St0, c_St1, setRow_St, rowLen_St, cat1_St, rowAt_St, set_St, sub_St, rowZ_St, c_T0, c_T1, setRow_T, rowLen_T, cat1_T, rowAt_T, set_T, sub_T, rowZ_T, c_E0, c_E1, c_E2, c_E3, c_E4, c_E5, setRow_E, rowLen_E, cat1_E, rowAt_E, set_E, sub_E, rowZ_E, catR_nil, catR_nilr, setRow_O0, setRow_O1, setRow_B0, setRow_B1, setRow_M0, setRow_M1, setRow_M2, setRow_M3, setRow_M4, setRow_M5, setRow_M6, setRow_C0, setRow_C1, setRow_C2, setRow_C3, setRow_C4, setRow_C5, setRow_C6, setRow_C7, setRow_C8, setRow_C9, setRow_C10, setRow_C11, setRow_C12, setRow_F0, setRow_F1, setRow_F2, setRow_F3, setRow_W0, setRow_W1, setRow_W2, setRow_Wt0, setRow_Wt1, setRow_Wt2, setRow_Wt3, setRow_St0, setRow_St1, setRow_T0, setRow_T1, setRow_E0, setRow_E1, setRow_E2, setRow_E3, setRow_E4, setRow_E5, t_pick, e0, tab3, tab3a, tab4, tab4a, gInt_if3, gStr_if3, gStr_if4, JP_19_39_eq]
    repeat' (first | exact ge_leaf _ _ _ _ _ _ (by omega) | apply ge_br)
  · have e0 : decide ((0 : Int) < w.waits.length) = true := by rw [decide_eq_true_eq]; omega
    have p0 : ∀ k : Int, rowZ 4 (w.waits.map rWt) (pick l k w.waits.length) = some (rWt (ix w.waits (pick l k w.waits.length))) := fun k => by
      have := @pick_rng l k w.waits.length (by omega)
      exact rowZ_Wt _ w.waits (by omega) (by omega)
    have p1 : ∀ k : Int, rowAt (w.waits.map rWt) (pick l k w.waits.length) = some (rWt (ix w.waits (pick l k w.waits.length))) := fun k => by
      have := @pick_rng l k w.waits.length (by omega)
      exact rowAt_Wt w.waits _ (by omega) (by omega)
    simp (disch := omega) only [bnd_some', bnd_none', br_true', br_false', gBool_b, gInt_i, gStr_s, gSl_r, gOwn_r, gRows_r, gMap_r, cellAt_zero, cellAt_succ, hdO_c, tlO_c, bNot_t, bNot_f, bNot_dec, bNot_bNot, br_bNot, len_rS, len_rI, len_rU, len_rO, len_rB, len_rM, len_rC, len_rF, len_rW, len_rWs, len_rWt, len_rSt, len_rT, len_rE, beq_self_eq_true, iEq_dec, iLt_dec, iLe_dec, bAnd_dec, bAnd_t, bAnd_f, bAnd_r, sLen_bs, sCat_bs, sEq_bs, sSub_ok, nrows_map, nrows_nil, nrows_one, nrows_cons, catR_map, catR_snoc, rowsStr_one, gTupN_if, gAggN_if, gCellsN_if, decide_true, decide_false, decide_eq_true_eq, if_true, if_false, ite_true, ite_false, true_and, and_true, false_and, and_false, not_true_eq_false, not_false_eq_true, Bool.false_eq_true, Bool.true_eq_false, reduceCtorEq, List.length_cons, List.length_nil, Int.reduceLE, Int.reduceLT, Int.reduceEq, Int.reduceNeg, Nat.reduceAdd, Int.toNat_natCast, okR_S, okR_I, okR_U, okR_O, okR_B, okR_M, okR_C, okR_F, okR_W, okR_Ws, okR_Wt, okR_St, okR_T, okR_E, okR_cons, okR_nil, Bool.and_self, iEq_self, ↓dec_selfI, ↓dec_selfS, c_S0, setRow_S, rowLen_S, cat1_S, rowAt_S, set_S, sub_S, rowZ_S, c_I0, setRow_I, rowLen_I, cat1_I, rowAt_I, set_I, sub_I, rowZ_I, c_U0, setRow_U, rowLen_U, cat1_U, rowAt_U, set_U, sub_U, rowZ_U, c_O0, c_O1, setRow_O, rowLen_O, cat1_O, rowAt_O, set_O, sub_O, rowZ_O, c_B0, c_B1, setRow_B, rowLen_B, cat1_B, rowAt_B, set_B, sub_B, rowZ_B, c_M0, c_M1, c_M2, c_M3, c_M4, c_M5, c_M6, setRow_M, rowLen_M, cat1_M, rowAt_M, set_M, sub_M, rowZ_M, c_C0, c_C1, c_C2, c_C3, c_C4, c_C5, c_C6, c_C7, c_C8, c_C9, c_C10, c_C11, c_C12, setRow_C, rowLen_C, cat1_C, rowAt_C, set_C, sub_C, rowZ_C, c_F0, c_F1, c_F2, c_F3, setRow_F, rowLen_F, cat1_F, rowAt_F, set_F, sub_F, rowZ_F, c_W0, c_W1, c_W2, setRow_W, rowLen_W, cat1_W, rowAt_W, set_W, sub_W, rowZ_W, c_Ws0, setRow_Ws, rowLen_Ws, cat1_Ws, rowAt_Ws, set_Ws, sub_Ws, rowZ_Ws, c_Wt0, c_Wt1, c_Wt2, c_Wt3, setRow_Wt, rowLen_Wt, cat1_Wt, rowAt_Wt, set_Wt, sub_Wt, rowZ_Wt, c_St0, c_St1, setRow_St, rowLen_St, cat1_St, rowAt_St, set_St, sub_St, rowZ_St, c_T0, c_T1, setRow_T, rowLen_T, cat1_T, rowAt_T, set_T, sub_T, rowZ_T, c_E0, c_E1, c_E2, c_E3, c_E4, c_E5, setRow_E, rowLen_E, cat1_E, rowAt_E, set_E, sub_E, rowZ_E, catR_nil, catR_nilr, setRow_O0, setRow_O1, setRow_B0, setRow_B1, setRow_M0, setRow_M1, setRow_M2, setRow_M3, setRow_M4, setRow_M5, setRow_M6, setRow_C0, setRow_C1, setRow_C2, setRow_C3, setRow_C4, setRow_C5, setRow_C6, setRow_C7, setRow_C8, setRow_C9, setRow_C10, setRow_C11, setRow_C12, setRow_F0, setRow_F1, setRow_F2, setRow_F3, setRow_W0, setRow_W1, setRow_W2, setRow_Wt0, setRow_Wt1, setRow_Wt2, setRow_Wt3, setRow_St0, setRow_St1, setRow_T0, setRow_T1, setRow_E0, setRow_E1, setRow_E2, setRow_E3, setRow_E4, setRow_E5, t_pick, p0, p1, e0, tab3, tab3a, tab4, tab4a, gInt_if3, gStr_if3, gStr_if4, JP_19_39_eq]
    repeat' (first | exact ge_leaf _ _ _ _ _ _ (by omega) | apply ge_br)
theorem lp_Event (l : S) (hl : l.length ≤ 2000) (w : World) (z : WJ w) (n n0 : Int) (hn : 0 ≤ n ∧ n ≤ 1000000) (h0 : n0 ≤ n ∧ n ≤ n0 + 2) (i22 i23 i24 i25 i26 : Int) (s27 : ByteArray) (i28 i30 i31 i32 : Int) (x : S) : ∀ (m k : Nat) (i29 : Int), 8 - k < m → k ≤ 8 → 0 ≤ i29 ∧ i29 ≤ 7 →
    Ge l w n0 (LP_19_4 L (D + 1) m (w.seats.map rM) (w.waits.map rWt) (w.log.map rC) (w.fresh.map rI) (w.spy.map rS) (w.stolen.map rSt) (w.frames.map rF) (w.said.map rI) (w.wins.map rWs) (w.told.map rT) (l.map rU) n w.seats.length w.waits.length w.log.length w.fresh.length w.spy.length w.stolen.length w.frames.length w.said.length w.wins.length w.told.length i22 i23 i24 i25 i26 s27 i28 i29 i30 i31 i32 (bs x) k)
  | 0, _, _, h, _, _ => by omega
  | m + 1, k, i29, h, hk, hi => by
    rw [LP_19_4_succ]
    have hj := jp_Event L D l hl w z n n0 hn h0 i22 i23 i24 i25 i26 s27 i28 i29 i30 i31 i32 x
    by_cases h8 : k < 8
    · have h8' : ((k : Int) < 8) := by omega
      have s8 := z.seats8
      have ih := lp_Event l hl w z n n0 hn h0 i22 i23 i24 i25 i26 s27 i28 i30 i31 i32 x m (k + 1) (iRem (iAdd .i64 i29 1) 8) (by omega) (by omega) (by
        have a : iAdd .i64 i29 1 = i29 + 1 := iWrap_w (by omega) (by omega)
        rw [a, iRem_pos (by omega)]; omega)
      have a1 : iAdd .i64 (k : Int) 1 = ((k + 1 : Nat) : Int) := (iWrap_w (by omega) (by omega)).trans (by omega)
      have e8 : decide ((8 : Int) = 0) = false := rfl
      simp (disch := omega) only [bnd_some', bnd_none', br_true', br_false', gBool_b, gInt_i, gStr_s, gSl_r, gOwn_r, gRows_r, gMap_r, cellAt_zero, cellAt_succ, hdO_c, tlO_c, bNot_t, bNot_f, bNot_dec, bNot_bNot, br_bNot, len_rS, len_rI, len_rU, len_rO, len_rB, len_rM, len_rC, len_rF, len_rW, len_rWs, len_rWt, len_rSt, len_rT, len_rE, beq_self_eq_true, iEq_dec, iLt_dec, iLe_dec, bAnd_dec, bAnd_t, bAnd_f, bAnd_r, sLen_bs, sCat_bs, sEq_bs, sSub_ok, nrows_map, nrows_nil, nrows_one, nrows_cons, catR_map, catR_snoc, rowsStr_one, gTupN_if, gAggN_if, gCellsN_if, decide_true, decide_false, decide_eq_true_eq, if_true, if_false, ite_true, ite_false, true_and, and_true, false_and, and_false, not_true_eq_false, not_false_eq_true, Bool.false_eq_true, Bool.true_eq_false, reduceCtorEq, List.length_cons, List.length_nil, Int.reduceLE, Int.reduceLT, Int.reduceEq, Int.reduceNeg, Nat.reduceAdd, Int.toNat_natCast, okR_S, okR_I, okR_U, okR_O, okR_B, okR_M, okR_C, okR_F, okR_W, okR_Ws, okR_Wt, okR_St, okR_T, okR_E, okR_cons, okR_nil, Bool.and_self, iEq_self, ↓dec_selfI, ↓dec_selfS, c_S0, setRow_S, rowLen_S, cat1_S, rowAt_S, set_S, sub_S, rowZ_S, c_I0, setRow_I, rowLen_I, cat1_I, rowAt_I, set_I, sub_I, rowZ_I, c_U0, setRow_U, rowLen_U, cat1_U, rowAt_U, set_U, sub_U, rowZ_U, c_O0, c_O1, setRow_O, rowLen_O, cat1_O, rowAt_O, set_O, sub_O, rowZ_O, c_B0, c_B1, setRow_B, rowLen_B, cat1_B, rowAt_B, set_B, sub_B, rowZ_B, c_M0, c_M1, c_M2, c_M3, c_M4, c_M5, c_M6, setRow_M, rowLen_M, cat1_M, rowAt_M, set_M, sub_M, rowZ_M, c_C0, c_C1, c_C2, c_C3, c_C4, c_C5, c_C6, c_C7, c_C8, c_C9, c_C10, c_C11, c_C12, setRow_C, rowLen_C, cat1_C, rowAt_C, set_C, sub_C, rowZ_C, c_F0, c_F1, c_F2, c_F3, setRow_F, rowLen_F, cat1_F, rowAt_F, set_F, sub_F, rowZ_F, c_W0, c_W1, c_W2, setRow_W, rowLen_W, cat1_W, rowAt_W, set_W, sub_W, rowZ_W, c_Ws0, setRow_Ws, rowLen_Ws, cat1_Ws, rowAt_Ws, set_Ws, sub_Ws, rowZ_Ws, c_Wt0, c_Wt1, c_Wt2, c_Wt3, setRow_Wt, rowLen_Wt, cat1_Wt, rowAt_Wt, set_Wt, sub_Wt, rowZ_Wt, c_St0, c_St1, setRow_St, rowLen_St, cat1_St, rowAt_St, set_St, sub_St, rowZ_St, c_T0, c_T1, setRow_T, rowLen_T, cat1_T, rowAt_T, set_T, sub_T, rowZ_T, c_E0, c_E1, c_E2, c_E3, c_E4, c_E5, setRow_E, rowLen_E, cat1_E, rowAt_E, set_E, sub_E, rowZ_E, catR_nil, catR_nilr, setRow_O0, setRow_O1, setRow_B0, setRow_B1, setRow_M0, setRow_M1, setRow_M2, setRow_M3, setRow_M4, setRow_M5, setRow_M6, setRow_C0, setRow_C1, setRow_C2, setRow_C3, setRow_C4, setRow_C5, setRow_C6, setRow_C7, setRow_C8, setRow_C9, setRow_C10, setRow_C11, setRow_C12, setRow_F0, setRow_F1, setRow_F2, setRow_F3, setRow_W0, setRow_W1, setRow_W2, setRow_Wt0, setRow_Wt1, setRow_Wt2, setRow_Wt3, setRow_St0, setRow_St1, setRow_T0, setRow_T1, setRow_E0, setRow_E1, setRow_E2, setRow_E3, setRow_E4, setRow_E5, h8', a1, e8, rowZ_M, rowAt_M]
      exact ge_br hj ih
    · have h8' : ¬ ((k : Int) < 8) := by omega
      simp (disch := omega) only [bnd_some', bnd_none', br_true', br_false', gBool_b, gInt_i, gStr_s, gSl_r, gOwn_r, gRows_r, gMap_r, cellAt_zero, cellAt_succ, hdO_c, tlO_c, bNot_t, bNot_f, bNot_dec, bNot_bNot, br_bNot, len_rS, len_rI, len_rU, len_rO, len_rB, len_rM, len_rC, len_rF, len_rW, len_rWs, len_rWt, len_rSt, len_rT, len_rE, beq_self_eq_true, iEq_dec, iLt_dec, iLe_dec, bAnd_dec, bAnd_t, bAnd_f, bAnd_r, sLen_bs, sCat_bs, sEq_bs, sSub_ok, nrows_map, nrows_nil, nrows_one, nrows_cons, catR_map, catR_snoc, rowsStr_one, gTupN_if, gAggN_if, gCellsN_if, decide_true, decide_false, decide_eq_true_eq, if_true, if_false, ite_true, ite_false, true_and, and_true, false_and, and_false, not_true_eq_false, not_false_eq_true, Bool.false_eq_true, Bool.true_eq_false, reduceCtorEq, List.length_cons, List.length_nil, Int.reduceLE, Int.reduceLT, Int.reduceEq, Int.reduceNeg, Nat.reduceAdd, Int.toNat_natCast, okR_S, okR_I, okR_U, okR_O, okR_B, okR_M, okR_C, okR_F, okR_W, okR_Ws, okR_Wt, okR_St, okR_T, okR_E, okR_cons, okR_nil, Bool.and_self, iEq_self, ↓dec_selfI, ↓dec_selfS, c_S0, setRow_S, rowLen_S, cat1_S, rowAt_S, set_S, sub_S, rowZ_S, c_I0, setRow_I, rowLen_I, cat1_I, rowAt_I, set_I, sub_I, rowZ_I, c_U0, setRow_U, rowLen_U, cat1_U, rowAt_U, set_U, sub_U, rowZ_U, c_O0, c_O1, setRow_O, rowLen_O, cat1_O, rowAt_O, set_O, sub_O, rowZ_O, c_B0, c_B1, setRow_B, rowLen_B, cat1_B, rowAt_B, set_B, sub_B, rowZ_B, c_M0, c_M1, c_M2, c_M3, c_M4, c_M5, c_M6, setRow_M, rowLen_M, cat1_M, rowAt_M, set_M, sub_M, rowZ_M, c_C0, c_C1, c_C2, c_C3, c_C4, c_C5, c_C6, c_C7, c_C8, c_C9, c_C10, c_C11, c_C12, setRow_C, rowLen_C, cat1_C, rowAt_C, set_C, sub_C, rowZ_C, c_F0, c_F1, c_F2, c_F3, setRow_F, rowLen_F, cat1_F, rowAt_F, set_F, sub_F, rowZ_F, c_W0, c_W1, c_W2, setRow_W, rowLen_W, cat1_W, rowAt_W, set_W, sub_W, rowZ_W, c_Ws0, setRow_Ws, rowLen_Ws, cat1_Ws, rowAt_Ws, set_Ws, sub_Ws, rowZ_Ws, c_Wt0, c_Wt1, c_Wt2, c_Wt3, setRow_Wt, rowLen_Wt, cat1_Wt, rowAt_Wt, set_Wt, sub_Wt, rowZ_Wt, c_St0, c_St1, setRow_St, rowLen_St, cat1_St, rowAt_St, set_St, sub_St, rowZ_St, c_T0, c_T1, setRow_T, rowLen_T, cat1_T, rowAt_T, set_T, sub_T, rowZ_T, c_E0, c_E1, c_E2, c_E3, c_E4, c_E5, setRow_E, rowLen_E, cat1_E, rowAt_E, set_E, sub_E, rowZ_E, catR_nil, catR_nilr, setRow_O0, setRow_O1, setRow_B0, setRow_B1, setRow_M0, setRow_M1, setRow_M2, setRow_M3, setRow_M4, setRow_M5, setRow_M6, setRow_C0, setRow_C1, setRow_C2, setRow_C3, setRow_C4, setRow_C5, setRow_C6, setRow_C7, setRow_C8, setRow_C9, setRow_C10, setRow_C11, setRow_C12, setRow_F0, setRow_F1, setRow_F2, setRow_F3, setRow_W0, setRow_W1, setRow_W2, setRow_Wt0, setRow_Wt1, setRow_Wt2, setRow_Wt3, setRow_St0, setRow_St1, setRow_T0, setRow_T1, setRow_E0, setRow_E1, setRow_E2, setRow_E3, setRow_E4, setRow_E5, h8']
      exact hj
theorem t_Event (l : S) (hl : l.length ≤ 2000) (w : World) (z : WJ w) (n : Int) (hn : 0 ≤ n ∧ n ≤ 900000) (hL : 1099511627776 ≤ L) :
    Ge l w n (ev E L (D + 2) 19 [.ptr (.imp 0) 0, .agg [.ref (.imp 1) w.seats.length, .ref (.imp 2) w.waits.length, .ref (.imp 3) w.log.length, .ref (.imp 4) w.fresh.length, .ref (.imp 5) w.spy.length, .ref (.imp 6) w.stolen.length, .ref (.imp 7) w.frames.length, .ref (.imp 8) w.said.length, .ref (.imp 9) w.wins.length, .ref (.imp 10) w.told.length]] [.cells [.sl (l.map rU), .int .i64 n], .rows (w.seats.map rM), .rows (w.waits.map rWt), .rows (w.log.map rC), .rows (w.fresh.map rI), .rows (w.spy.map rS), .rows (w.stolen.map rSt), .rows (w.frames.map rF), .rows (w.said.map rI), .rows (w.wins.map rWs), .rows (w.told.map rT)]) := by
  have h := eq_19 L (D + 1) (l.map rU) n (w.seats.map rM) (w.waits.map rWt) (w.log.map rC) (w.fresh.map rI) (w.spy.map rS) (w.stolen.map rSt) (w.frames.map rF) (w.said.map rI) (w.wins.map rWs) (w.told.map rT)
  simp (disch := omega) only [bnd_some', bnd_none', br_true', br_false', gBool_b, gInt_i, gStr_s, gSl_r, gOwn_r, gRows_r, gMap_r, cellAt_zero, cellAt_succ, hdO_c, tlO_c, bNot_t, bNot_f, bNot_dec, bNot_bNot, br_bNot, len_rS, len_rI, len_rU, len_rO, len_rB, len_rM, len_rC, len_rF, len_rW, len_rWs, len_rWt, len_rSt, len_rT, len_rE, beq_self_eq_true, iEq_dec, iLt_dec, iLe_dec, bAnd_dec, bAnd_t, bAnd_f, bAnd_r, sLen_bs, sCat_bs, sEq_bs, sSub_ok, nrows_map, nrows_nil, nrows_one, nrows_cons, catR_map, catR_snoc, rowsStr_one, gTupN_if, gAggN_if, gCellsN_if, decide_true, decide_false, decide_eq_true_eq, if_true, if_false, ite_true, ite_false, true_and, and_true, false_and, and_false, not_true_eq_false, not_false_eq_true, Bool.false_eq_true, Bool.true_eq_false, reduceCtorEq, List.length_cons, List.length_nil, Int.reduceLE, Int.reduceLT, Int.reduceEq, Int.reduceNeg, Nat.reduceAdd, Int.toNat_natCast, okR_S, okR_I, okR_U, okR_O, okR_B, okR_M, okR_C, okR_F, okR_W, okR_Ws, okR_Wt, okR_St, okR_T, okR_E, okR_cons, okR_nil, Bool.and_self, iEq_self, ↓dec_selfI, ↓dec_selfS, c_S0, setRow_S, rowLen_S, cat1_S, rowAt_S, set_S, sub_S, rowZ_S, c_I0, setRow_I, rowLen_I, cat1_I, rowAt_I, set_I, sub_I, rowZ_I, c_U0, setRow_U, rowLen_U, cat1_U, rowAt_U, set_U, sub_U, rowZ_U, c_O0, c_O1, setRow_O, rowLen_O, cat1_O, rowAt_O, set_O, sub_O, rowZ_O, c_B0, c_B1, setRow_B, rowLen_B, cat1_B, rowAt_B, set_B, sub_B, rowZ_B, c_M0, c_M1, c_M2, c_M3, c_M4, c_M5, c_M6, setRow_M, rowLen_M, cat1_M, rowAt_M, set_M, sub_M, rowZ_M, c_C0, c_C1, c_C2, c_C3, c_C4, c_C5, c_C6, c_C7, c_C8, c_C9, c_C10, c_C11, c_C12, setRow_C, rowLen_C, cat1_C, rowAt_C, set_C, sub_C, rowZ_C, c_F0, c_F1, c_F2, c_F3, setRow_F, rowLen_F, cat1_F, rowAt_F, set_F, sub_F, rowZ_F, c_W0, c_W1, c_W2, setRow_W, rowLen_W, cat1_W, rowAt_W, set_W, sub_W, rowZ_W, c_Ws0, setRow_Ws, rowLen_Ws, cat1_Ws, rowAt_Ws, set_Ws, sub_Ws, rowZ_Ws, c_Wt0, c_Wt1, c_Wt2, c_Wt3, setRow_Wt, rowLen_Wt, cat1_Wt, rowAt_Wt, set_Wt, sub_Wt, rowZ_Wt, c_St0, c_St1, setRow_St, rowLen_St, cat1_St, rowAt_St, set_St, sub_St, rowZ_St, c_T0, c_T1, setRow_T, rowLen_T, cat1_T, rowAt_T, set_T, sub_T, rowZ_T, c_E0, c_E1, c_E2, c_E3, c_E4, c_E5, setRow_E, rowLen_E, cat1_E, rowAt_E, set_E, sub_E, rowZ_E, catR_nil, catR_nilr, setRow_O0, setRow_O1, setRow_B0, setRow_B1, setRow_M0, setRow_M1, setRow_M2, setRow_M3, setRow_M4, setRow_M5, setRow_M6, setRow_C0, setRow_C1, setRow_C2, setRow_C3, setRow_C4, setRow_C5, setRow_C6, setRow_C7, setRow_C8, setRow_C9, setRow_C10, setRow_C11, setRow_C12, setRow_F0, setRow_F1, setRow_F2, setRow_F3, setRow_W0, setRow_W1, setRow_W2, setRow_Wt0, setRow_Wt1, setRow_Wt2, setRow_Wt3, setRow_St0, setRow_St1, setRow_T0, setRow_T1, setRow_E0, setRow_E1, setRow_E2, setRow_E3, setRow_E4, setRow_E5, t_pick] at h
  rw [h]
  have := @pick_rng l n 5 (by omega)
  have h1 := lp_Event L D l hl w z (n + 1 + 1) n (by omega) (by omega) 0 0 0 0 0 (bs []) 0 (-1) (-1) 0 [] L 0 (pick l n 5) (by omega) (by omega) (by omega)
  have h2 := jp_Event L D l hl w z (n + 1 + 1) n (by omega) (by omega) 0 0 0 0 0 (bs []) 0 (pick l n 5) (-1) (-1) 0 []
  rw [show ((0 : Nat) : Int) = 0 from rfl] at h1
  exact ge_br h1 h2
end
end Kw
