import Derived.Test.YtphammifhilpdaaDoorD21
namespace Kw
set_option linter.unusedVariables false
set_option linter.unusedSimpArgs false
set_option linter.unusedSectionVars false
open Go Go.Proofs
/-- how a commit's words are answered -/
def ComR (k w p : Int) (t : S) (ws : List S) (x y : Int) (r : Option (MV × List Obj)) : Prop :=
  ∃ (e : Event) (ok : Bool), r = some (.tup [.agg [.int .i64 e.kind, .int .i64 e.who, .int .i64 e.add, .int .i64 e.remove, .int .i64 e.pos, .str (bs e.text)], .bool ok], []) ∧
    match commitS ws x y with | some q => ok = true ∧ e = ⟨k, w, q.1, q.2, p, t⟩ | none => ok = false
theorem two_le_d (a b : Row) (l : List Row) : decide (2 ≤ nrows (a :: b :: l)) = true := by
  rw [← iLe_dec]; exact two_le a b l
theorem two_le_0 : decide ((0 : Int) ≤ 2) = true := rfl
theorem two_le1 (a : Row) : iLe 2 (nrows [a]) = false := rfl
theorem two_le0 : iLe 2 (nrows []) = false := rfl
section
variable (L D : Nat)
theorem lp_commit (k w p : Int) (t : S) (j6 j7 j8 j9 j10 : Int) (s11 : ByteArray) : ∀ (ws : List S) (m : Nat) (x y : Int), ws.length < m → (∀ s ∈ ws, s.length ≤ 2000000) →
    ComR k w p t ws x y (LP_30_3 L (D + 1) m k w x y p (bs t) j6 j7 j8 j9 j10 s11 (ws.map rS))
  | _, 0, _, _, h, _ => by omega
  | [], m + 1, x, y, h, hs => by
    rw [LP_30_3_succ]
    refine ⟨⟨k, w, x, y, p, t⟩, true, ?_, rfl, rfl⟩
    simp only [List.map_nil, two_le0, br_false']
    rfl
  | [a], m + 1, x, y, h, hs => by
    rw [LP_30_3_succ]
    refine ⟨⟨k, w, x, y, p, t⟩, false, ?_, rfl⟩
    simp only [List.map_cons, List.map_nil, two_le1, br_false']
    rfl
  | a :: b :: r, m + 1, x, y, h, hs => by
    rw [LP_30_3_succ]
    have hb := d_let L D b (hs b (by simp))
    have ihA := lp_commit k w p t j6 j7 j8 j9 j10 s11 r m (letS b) y (by simp at h; omega) (fun s h => hs s (by simp [h]))
    have ihR := lp_commit k w p t j6 j7 j8 j9 j10 s11 r m x (letS b) (by simp at h; omega) (fun s h => hs s (by simp [h]))
    have hok := okR_ab a b r
    have e1 : sEq (bs a) (bs [97, 100, 100]) = decide (a = wAdd) := sEq_bs a wAdd
    have e2 : sEq (bs a) (bs [114, 101, 109, 111, 118, 101]) = decide (a = wRemove) := sEq_bs a wRemove
    simp only [List.map_cons, two_le_d, two_le_0, rz0, rz1, c_S0, bnd_some', gStr_s, hb, gInt_i, br_true', e1, e2, subR_two, self_le, iLe02, hok, bAnd_t, iLt_dec, iLe_dec]
    have c1 : commitS (a :: b :: r) x y = if a = wAdd ∧ x < 0 ∧ y < 0 ∧ 0 ≤ letS b then commitS r (letS b) y else if a = wRemove ∧ y < 0 ∧ 0 ≤ letS b then commitS r x (letS b) else none := rfl
    have hz : ∀ (q : Option (MV × List Obj)), commitS (a :: b :: r) x y = none → q = some (.tup [.agg [.int .i64 0, .int .i64 0, .int .i64 0, .int .i64 0, .int .i64 0, .str (bs [])], .bool false], []) → ComR k w p t (a :: b :: r) x y q := fun q h1 h2 => ⟨⟨0, 0, 0, 0, 0, []⟩, false, h2, by rw [h1]⟩
    have hA : a = wAdd ∧ x < 0 ∧ y < 0 ∧ 0 ≤ letS b → ComR k w p t (a :: b :: r) x y (LP_30_3 L (D + 1) m k w (letS b) y p (bs t) j6 j7 j8 j9 j10 s11 (r.map rS)) := fun hc => by
      obtain ⟨e, ok, h1, h2⟩ := ihA
      exact ⟨e, ok, h1, by rw [c1, if_pos hc]; exact h2⟩
    have hR : ¬ (a = wAdd ∧ x < 0 ∧ y < 0 ∧ 0 ≤ letS b) → a = wRemove ∧ y < 0 ∧ 0 ≤ letS b → ComR k w p t (a :: b :: r) x y (LP_30_3 L (D + 1) m k w x (letS b) p (bs t) j6 j7 j8 j9 j10 s11 (r.map rS)) := fun hn hc => by
      obtain ⟨e, ok, h1, h2⟩ := ihR
      exact ⟨e, ok, h1, by rw [c1, if_neg hn, if_pos hc]; exact h2⟩
    have hN : ¬ (a = wAdd ∧ x < 0 ∧ y < 0 ∧ 0 ≤ letS b) → ¬ (a = wRemove ∧ y < 0 ∧ 0 ≤ letS b) → commitS (a :: b :: r) x y = none := fun h1 h2 => by rw [c1, if_neg h1, if_neg h2]
    by_cases ha : a = wAdd
    · have hr : ¬ a = wRemove := by rw [ha]; decide
      rw [decide_eq_true ha, decide_eq_false hr]
      by_cases hx : x < 0
      · rw [decide_eq_true hx]
        by_cases hy : y < 0
        · rw [decide_eq_true hy]
          by_cases hl : 0 ≤ letS b
          · rw [decide_eq_true hl]
            exact hA ⟨ha, hx, hy, hl⟩
          · rw [decide_eq_false hl]
            exact hz _ (hN (fun x => hl x.2.2.2) (fun x => hr x.1)) rfl
        · rw [decide_eq_false hy]
          exact hz _ (hN (fun x => hy x.2.2.1) (fun x => hr x.1)) rfl
      · rw [decide_eq_false hx]
        exact hz _ (hN (fun q => hx q.2.1) (fun x => hr x.1)) rfl
    · rw [decide_eq_false ha]
      by_cases hr : a = wRemove
      · rw [decide_eq_true hr]
        by_cases hy : y < 0
        · rw [decide_eq_true hy]
          by_cases hl : 0 ≤ letS b
          · rw [decide_eq_true hl]
            exact hR (fun x => ha x.1) ⟨hr, hy, hl⟩
          · rw [decide_eq_false hl]
            exact hz _ (hN (fun x => ha x.1) (fun x => hl x.2.2)) rfl
        · rw [decide_eq_false hy]
          exact hz _ (hN (fun x => ha x.1) (fun x => hy x.2.1)) rfl
      · rw [decide_eq_false hr]
        exact hz _ (hN (fun x => ha x.1) (fun x => hr x.1)) rfl
theorem d_commit (hL : 1099511627776 ≤ L) (k w p : Int) (t : S) (a r : Int) (ws : List S) (hw : ws.length ≤ 2000000) (hs : ∀ s ∈ ws, s.length ≤ 2000000) :
    ComR k w p t ws (-1) (-1) (ev E L (D + 2) 30 [.agg [.int .i64 k, .int .i64 w, .int .i64 a, .int .i64 r, .int .i64 p, .str (bs t)], .sl (ws.map rS)] []) := by
  rw [eq_30]
  exact lp_commit L D k w p t _ _ _ _ _ _ ws L (-1) (-1) (by omega) hs
theorem d_kind (s : S) : ev E L (D + 1) 31 [.str (bs s)] [] = some (.int .i64 (if s = wHear then 2 else if s = wJoin then 3 else 6), []) := by
  rw [eq_31]
  have e1 : sEq (bs s) (bs [104, 101, 97, 114]) = decide (s = wHear) := sEq_bs s wHear
  have e2 : sEq (bs s) (bs [106, 111, 105, 110]) = decide (s = wJoin) := sEq_bs s wJoin
  rw [e1, e2]
  by_cases h1 : s = wHear
  · rw [decide_eq_true h1, if_pos h1]; rfl
  · rw [decide_eq_false h1, if_neg h1]
    by_cases h2 : s = wJoin
    · rw [decide_eq_true h2, if_pos h2]; rfl
    · rw [decide_eq_false h2, if_neg h2]; rfl
end
end Kw
namespace Kw
set_option linter.unusedVariables false
set_option linter.unusedSimpArgs false
set_option linter.unusedSectionVars false
open Go Go.Proofs
def rejD : Option (MV × List Obj) := some (.tup [.agg [.int .i64 0, .int .i64 0, .int .i64 0, .int .i64 0, .int .i64 0, .str (bs [])], .bool false], [])
section
variable (L D : Nat)
theorem tail_acc (k w a r p : Int) (t s : S) : br (decide (txt ⟨k, w, a, r, p, t⟩ = s)) (some (.tup [.agg [.int .i64 k, .int .i64 w, .int .i64 a, .int .i64 r, .int .i64 p, .str (bs t)], .bool true], [])) rejD =
    some (resD (if txt ⟨k, w, a, r, p, t⟩ = s then some ⟨k, w, a, r, p, t⟩ else none), []) := by
  by_cases h : txt ⟨k, w, a, r, p, t⟩ = s
  · rw [decide_eq_true h, if_pos h]; rfl
  · rw [decide_eq_false h, if_neg h]; rfl
theorem rejD_eq : rejD = some (resD none, []) := rfl
theorem d_spec (hL : 1099511627776 ≤ L) (s : S) (hs : s.length ≤ 2000000) : ev E L (D + 3) 12 [.str (bs s)] [] = some (resD (dskS s), []) := by
  rw [eq_12]
  have hw := d_words L (D + 1) hL s hs
  have hsz := spl_size s []
  have hln := spl_len s []
  have hcnt : s.count 32 ≤ s.length := List.count_le_length
  have htx := d_txt' L D hL
  unfold dskS
  change _ = some (resD (match spl [] s with | w0 :: w1 :: rest => if 30 < s.length then none else (match rawS w0 w1 rest with | some e => if txt e = s then some e else none | none => none) | _ => none), [])
  by_cases h30 : 30 < s.length
  · have g : decide ((30 : Int) < s.length) = true := by rw [decide_eq_true_eq]; omega
    have : (match spl [] s with | w0 :: w1 :: rest => if 30 < s.length then none else (match rawS w0 w1 rest with | some e => if txt e = s then some e else none | none => none) | _ => none) = none := by
      split
      · rw [if_pos h30]
      · rfl
    rw [this]
    simp only [hw, bnd_some', bnd_none', br_true', br_false', gBool_b, gInt_i, gStr_s, gSl_r, gOwn_r, gRows_r, gMap_r, cellAt_zero, cellAt_succ, hdO_c, tlO_c, bNot_t, bNot_f, bNot_dec, bNot_bNot, br_bNot, len_rS, len_rI, len_rU, len_rO, len_rB, len_rM, len_rC, len_rF, len_rW, len_rWs, len_rWt, len_rSt, len_rT, len_rE, beq_self_eq_true, iEq_dec, iLt_dec, iLe_dec, bAnd_dec, bAnd_t, bAnd_f, bAnd_r, sLen_bs, sCat_bs, sEq_bs, sSub_ok, nrows_map, nrows_nil, nrows_one, nrows_cons, catR_map, catR_snoc, rowsStr_one, gTupN_if, gAggN_if, gCellsN_if, decide_true, decide_false, decide_eq_true_eq, if_true, if_false, ite_true, ite_false, true_and, and_true, false_and, and_false, not_true_eq_false, not_false_eq_true, Bool.false_eq_true, Bool.true_eq_false, reduceCtorEq, List.length_cons, List.length_nil, Int.reduceLE, Int.reduceLT, Int.reduceEq, Int.reduceNeg, Nat.reduceAdd, Int.toNat_natCast, okR_S, okR_I, okR_U, okR_O, okR_B, okR_M, okR_C, okR_F, okR_W, okR_Ws, okR_Wt, okR_St, okR_T, okR_E, okR_cons, okR_nil, Bool.and_self, iEq_self, ↓dec_selfI, ↓dec_selfS, c_S0, setRow_S, rowLen_S, cat1_S, rowAt_S, set_S, sub_S, rowZ_S, c_I0, setRow_I, rowLen_I, cat1_I, rowAt_I, set_I, sub_I, rowZ_I, c_U0, setRow_U, rowLen_U, cat1_U, rowAt_U, set_U, sub_U, rowZ_U, c_O0, c_O1, setRow_O, rowLen_O, cat1_O, rowAt_O, set_O, sub_O, rowZ_O, c_B0, c_B1, setRow_B, rowLen_B, cat1_B, rowAt_B, set_B, sub_B, rowZ_B, c_M0, c_M1, c_M2, c_M3, c_M4, c_M5, c_M6, setRow_M, rowLen_M, cat1_M, rowAt_M, set_M, sub_M, rowZ_M, c_C0, c_C1, c_C2, c_C3, c_C4, c_C5, c_C6, c_C7, c_C8, c_C9, c_C10, c_C11, c_C12, setRow_C, rowLen_C, cat1_C, rowAt_C, set_C, sub_C, rowZ_C, c_F0, c_F1, c_F2, c_F3, setRow_F, rowLen_F, cat1_F, rowAt_F, set_F, sub_F, rowZ_F, c_W0, c_W1, c_W2, setRow_W, rowLen_W, cat1_W, rowAt_W, set_W, sub_W, rowZ_W, c_Ws0, setRow_Ws, rowLen_Ws, cat1_Ws, rowAt_Ws, set_Ws, sub_Ws, rowZ_Ws, c_Wt0, c_Wt1, c_Wt2, c_Wt3, setRow_Wt, rowLen_Wt, cat1_Wt, rowAt_Wt, set_Wt, sub_Wt, rowZ_Wt, c_St0, c_St1, setRow_St, rowLen_St, cat1_St, rowAt_St, set_St, sub_St, rowZ_St, c_T0, c_T1, setRow_T, rowLen_T, cat1_T, rowAt_T, set_T, sub_T, rowZ_T, c_E0, c_E1, c_E2, c_E3, c_E4, c_E5, setRow_E, rowLen_E, cat1_E, rowAt_E, set_E, sub_E, rowZ_E, catR_nil, catR_nilr, setRow_O0, setRow_O1, setRow_B0, setRow_B1, setRow_M0, setRow_M1, setRow_M2, setRow_M3, setRow_M4, setRow_M5, setRow_M6, setRow_C0, setRow_C1, setRow_C2, setRow_C3, setRow_C4, setRow_C5, setRow_C6, setRow_C7, setRow_C8, setRow_C9, setRow_C10, setRow_C11, setRow_C12, setRow_F0, setRow_F1, setRow_F2, setRow_F3, setRow_W0, setRow_W1, setRow_W2, setRow_Wt0, setRow_Wt1, setRow_Wt2, setRow_Wt3, setRow_St0, setRow_St1, setRow_T0, setRow_T1, setRow_E0, setRow_E1, setRow_E2, setRow_E3, setRow_E4, setRow_E5, g]
    rfl
  have g : decide ((30 : Int) < s.length) = false := by rw [decide_eq_false_iff_not]; omega
  match hq : spl [] s with
  | [] => exact absurd hq (spl_ne s [])
  | [w0] =>
    rw [hq] at hw
    simp only [hw, bnd_some', bnd_none', br_true', br_false', gBool_b, gInt_i, gStr_s, gSl_r, gOwn_r, gRows_r, gMap_r, cellAt_zero, cellAt_succ, hdO_c, tlO_c, bNot_t, bNot_f, bNot_dec, bNot_bNot, br_bNot, len_rS, len_rI, len_rU, len_rO, len_rB, len_rM, len_rC, len_rF, len_rW, len_rWs, len_rWt, len_rSt, len_rT, len_rE, beq_self_eq_true, iEq_dec, iLt_dec, iLe_dec, bAnd_dec, bAnd_t, bAnd_f, bAnd_r, sLen_bs, sCat_bs, sEq_bs, sSub_ok, nrows_map, nrows_nil, nrows_one, nrows_cons, catR_map, catR_snoc, rowsStr_one, gTupN_if, gAggN_if, gCellsN_if, decide_true, decide_false, decide_eq_true_eq, if_true, if_false, ite_true, ite_false, true_and, and_true, false_and, and_false, not_true_eq_false, not_false_eq_true, Bool.false_eq_true, Bool.true_eq_false, reduceCtorEq, List.length_cons, List.length_nil, Int.reduceLE, Int.reduceLT, Int.reduceEq, Int.reduceNeg, Nat.reduceAdd, Int.toNat_natCast, okR_S, okR_I, okR_U, okR_O, okR_B, okR_M, okR_C, okR_F, okR_W, okR_Ws, okR_Wt, okR_St, okR_T, okR_E, okR_cons, okR_nil, Bool.and_self, iEq_self, ↓dec_selfI, ↓dec_selfS, c_S0, setRow_S, rowLen_S, cat1_S, rowAt_S, set_S, sub_S, rowZ_S, c_I0, setRow_I, rowLen_I, cat1_I, rowAt_I, set_I, sub_I, rowZ_I, c_U0, setRow_U, rowLen_U, cat1_U, rowAt_U, set_U, sub_U, rowZ_U, c_O0, c_O1, setRow_O, rowLen_O, cat1_O, rowAt_O, set_O, sub_O, rowZ_O, c_B0, c_B1, setRow_B, rowLen_B, cat1_B, rowAt_B, set_B, sub_B, rowZ_B, c_M0, c_M1, c_M2, c_M3, c_M4, c_M5, c_M6, setRow_M, rowLen_M, cat1_M, rowAt_M, set_M, sub_M, rowZ_M, c_C0, c_C1, c_C2, c_C3, c_C4, c_C5, c_C6, c_C7, c_C8, c_C9, c_C10, c_C11, c_C12, setRow_C, rowLen_C, cat1_C, rowAt_C, set_C, sub_C, rowZ_C, c_F0, c_F1, c_F2, c_F3, setRow_F, rowLen_F, cat1_F, rowAt_F, set_F, sub_F, rowZ_F, c_W0, c_W1, c_W2, setRow_W, rowLen_W, cat1_W, rowAt_W, set_W, sub_W, rowZ_W, c_Ws0, setRow_Ws, rowLen_Ws, cat1_Ws, rowAt_Ws, set_Ws, sub_Ws, rowZ_Ws, c_Wt0, c_Wt1, c_Wt2, c_Wt3, setRow_Wt, rowLen_Wt, cat1_Wt, rowAt_Wt, set_Wt, sub_Wt, rowZ_Wt, c_St0, c_St1, setRow_St, rowLen_St, cat1_St, rowAt_St, set_St, sub_St, rowZ_St, c_T0, c_T1, setRow_T, rowLen_T, cat1_T, rowAt_T, set_T, sub_T, rowZ_T, c_E0, c_E1, c_E2, c_E3, c_E4, c_E5, setRow_E, rowLen_E, cat1_E, rowAt_E, set_E, sub_E, rowZ_E, catR_nil, catR_nilr, setRow_O0, setRow_O1, setRow_B0, setRow_B1, setRow_M0, setRow_M1, setRow_M2, setRow_M3, setRow_M4, setRow_M5, setRow_M6, setRow_C0, setRow_C1, setRow_C2, setRow_C3, setRow_C4, setRow_C5, setRow_C6, setRow_C7, setRow_C8, setRow_C9, setRow_C10, setRow_C11, setRow_C12, setRow_F0, setRow_F1, setRow_F2, setRow_F3, setRow_W0, setRow_W1, setRow_W2, setRow_Wt0, setRow_Wt1, setRow_Wt2, setRow_Wt3, setRow_St0, setRow_St1, setRow_T0, setRow_T1, setRow_E0, setRow_E1, setRow_E2, setRow_E3, setRow_E4, setRow_E5, g]
    rfl
  | w0 :: w1 :: rest =>
    rw [hq] at hw hsz hln
    have z0 := hsz w0 (by simp)
    have z1 := hsz w1 (by simp)
    have zr : ∀ x ∈ rest, x.length ≤ 2000000 := fun x hx => by have := hsz x (by simp [hx]); simp at this; omega
    have hrl : rest.length ≤ 2000000 := by simp at hln; omega
    have n2 : decide ((rest.length : Int) + 1 + 1 < 2) = false := by rw [decide_eq_false_iff_not]; omega
    have m2 : decide ((2 : Int) ≤ (rest.length : Int) + 1 + 1) = true := by rw [decide_eq_true_eq]; omega
    have mm : decide ((rest.length : Int) + 1 + 1 ≤ (rest.length : Int) + 1 + 1) = true := by rw [decide_eq_true_eq]; omega
    have o2 : decide ((0 : Int) ≤ 2) = true := rfl
    have su : subR (rS w0 :: rS w1 :: rest.map rS) 2 ((rest.length : Int) + 1 + 1) = rest.map rS := by
      have := subR_two (rS w0) (rS w1) (rest.map rS)
      simpa only [nrows_cons, nrows_map] using this
    have hl := d_let L (D + 1) w1 (by simp at z1; omega)
    have hk := d_kind L (D + 1) w0
    have e1 : sEq (bs w0) (bs [99, 111, 109, 109, 105, 116]) = decide (w0 = wCommit) := sEq_bs w0 wCommit
    have e2 : sEq (bs w0) (bs [115, 116, 101, 97, 108]) = decide (w0 = wSteal) := sEq_bs w0 wSteal
    have e3 : sEq (bs w0) (bs [115, 97, 121]) = decide (w0 = wSay) := sEq_bs w0 wSay
    have e4 : sEq (bs w0) (bs [104, 101, 97, 114]) = decide (w0 = wHear) := sEq_bs w0 wHear
    have e5 : sEq (bs w0) (bs [106, 111, 105, 110]) = decide (w0 = wJoin) := sEq_bs w0 wJoin
    have e6 : sEq (bs w0) (bs [103, 101, 116]) = decide (w0 = wGet) := sEq_bs w0 wGet
    simp only [hw, bnd_some', bnd_none', br_true', br_false', gBool_b, gInt_i, gStr_s, gSl_r, gOwn_r, gRows_r, gMap_r, cellAt_zero, cellAt_succ, hdO_c, tlO_c, bNot_t, bNot_f, bNot_dec, bNot_bNot, br_bNot, len_rS, len_rI, len_rU, len_rO, len_rB, len_rM, len_rC, len_rF, len_rW, len_rWs, len_rWt, len_rSt, len_rT, len_rE, beq_self_eq_true, iEq_dec, iLt_dec, iLe_dec, bAnd_dec, bAnd_t, bAnd_f, bAnd_r, sLen_bs, sCat_bs, sEq_bs, sSub_ok, nrows_map, nrows_nil, nrows_one, nrows_cons, catR_map, catR_snoc, rowsStr_one, gTupN_if, gAggN_if, gCellsN_if, decide_true, decide_false, decide_eq_true_eq, if_true, if_false, ite_true, ite_false, true_and, and_true, false_and, and_false, not_true_eq_false, not_false_eq_true, Bool.false_eq_true, Bool.true_eq_false, reduceCtorEq, List.length_cons, List.length_nil, Int.reduceLE, Int.reduceLT, Int.reduceEq, Int.reduceNeg, Nat.reduceAdd, Int.toNat_natCast, okR_S, okR_I, okR_U, okR_O, okR_B, okR_M, okR_C, okR_F, okR_W, okR_Ws, okR_Wt, okR_St, okR_T, okR_E, okR_cons, okR_nil, Bool.and_self, iEq_self, ↓dec_selfI, ↓dec_selfS, c_S0, setRow_S, rowLen_S, cat1_S, rowAt_S, set_S, sub_S, rowZ_S, c_I0, setRow_I, rowLen_I, cat1_I, rowAt_I, set_I, sub_I, rowZ_I, c_U0, setRow_U, rowLen_U, cat1_U, rowAt_U, set_U, sub_U, rowZ_U, c_O0, c_O1, setRow_O, rowLen_O, cat1_O, rowAt_O, set_O, sub_O, rowZ_O, c_B0, c_B1, setRow_B, rowLen_B, cat1_B, rowAt_B, set_B, sub_B, rowZ_B, c_M0, c_M1, c_M2, c_M3, c_M4, c_M5, c_M6, setRow_M, rowLen_M, cat1_M, rowAt_M, set_M, sub_M, rowZ_M, c_C0, c_C1, c_C2, c_C3, c_C4, c_C5, c_C6, c_C7, c_C8, c_C9, c_C10, c_C11, c_C12, setRow_C, rowLen_C, cat1_C, rowAt_C, set_C, sub_C, rowZ_C, c_F0, c_F1, c_F2, c_F3, setRow_F, rowLen_F, cat1_F, rowAt_F, set_F, sub_F, rowZ_F, c_W0, c_W1, c_W2, setRow_W, rowLen_W, cat1_W, rowAt_W, set_W, sub_W, rowZ_W, c_Ws0, setRow_Ws, rowLen_Ws, cat1_Ws, rowAt_Ws, set_Ws, sub_Ws, rowZ_Ws, c_Wt0, c_Wt1, c_Wt2, c_Wt3, setRow_Wt, rowLen_Wt, cat1_Wt, rowAt_Wt, set_Wt, sub_Wt, rowZ_Wt, c_St0, c_St1, setRow_St, rowLen_St, cat1_St, rowAt_St, set_St, sub_St, rowZ_St, c_T0, c_T1, setRow_T, rowLen_T, cat1_T, rowAt_T, set_T, sub_T, rowZ_T, c_E0, c_E1, c_E2, c_E3, c_E4, c_E5, setRow_E, rowLen_E, cat1_E, rowAt_E, set_E, sub_E, rowZ_E, catR_nil, catR_nilr, setRow_O0, setRow_O1, setRow_B0, setRow_B1, setRow_M0, setRow_M1, setRow_M2, setRow_M3, setRow_M4, setRow_M5, setRow_M6, setRow_C0, setRow_C1, setRow_C2, setRow_C3, setRow_C4, setRow_C5, setRow_C6, setRow_C7, setRow_C8, setRow_C9, setRow_C10, setRow_C11, setRow_C12, setRow_F0, setRow_F1, setRow_F2, setRow_F3, setRow_W0, setRow_W1, setRow_W2, setRow_Wt0, setRow_Wt1, setRow_Wt2, setRow_Wt3, setRow_St0, setRow_St1, setRow_T0, setRow_T1, setRow_E0, setRow_E1, setRow_E2, setRow_E3, setRow_E4, setRow_E5, g, n2, rz0, rz1, hl, e1, e2, e3, e4, e5, e6, m2, mm, o2, su, List.map_cons]
    rw [if_neg h30]
    have hdl : ∀ b : Bool, (b = true ↔ 0 ≤ letS w1) → decide (0 ≤ letS w1) = b := fun b h => by
      cases b
      · rw [decide_eq_false_iff_not, ← h]; simp
      · rw [decide_eq_true_eq, ← h]
    by_cases c1 : w0 = wCommit
    · obtain ⟨e, ok, hc, hm⟩ := d_commit L D hL 1 (letS w1) 0 [] 0 0 rest hrl zr
      rw [decide_eq_true c1]
      simp only [hc, br_true', bnd_some', bnd_none', br_true', br_false', gBool_b, gInt_i, gStr_s, gSl_r, gOwn_r, gRows_r, gMap_r, cellAt_zero, cellAt_succ, hdO_c, tlO_c, bNot_t, bNot_f, bNot_dec, bNot_bNot, br_bNot, len_rS, len_rI, len_rU, len_rO, len_rB, len_rM, len_rC, len_rF, len_rW, len_rWs, len_rWt, len_rSt, len_rT, len_rE, beq_self_eq_true, iEq_dec, iLt_dec, iLe_dec, bAnd_dec, bAnd_t, bAnd_f, bAnd_r, sLen_bs, sCat_bs, sEq_bs, sSub_ok, nrows_map, nrows_nil, nrows_one, nrows_cons, catR_map, catR_snoc, rowsStr_one, gTupN_if, gAggN_if, gCellsN_if, decide_true, decide_false, decide_eq_true_eq, if_true, if_false, ite_true, ite_false, true_and, and_true, false_and, and_false, not_true_eq_false, not_false_eq_true, Bool.false_eq_true, Bool.true_eq_false, reduceCtorEq, List.length_cons, List.length_nil, Int.reduceLE, Int.reduceLT, Int.reduceEq, Int.reduceNeg, Nat.reduceAdd, Int.toNat_natCast, okR_S, okR_I, okR_U, okR_O, okR_B, okR_M, okR_C, okR_F, okR_W, okR_Ws, okR_Wt, okR_St, okR_T, okR_E, okR_cons, okR_nil, Bool.and_self, iEq_self, ↓dec_selfI, ↓dec_selfS, c_S0, setRow_S, rowLen_S, cat1_S, rowAt_S, set_S, sub_S, rowZ_S, c_I0, setRow_I, rowLen_I, cat1_I, rowAt_I, set_I, sub_I, rowZ_I, c_U0, setRow_U, rowLen_U, cat1_U, rowAt_U, set_U, sub_U, rowZ_U, c_O0, c_O1, setRow_O, rowLen_O, cat1_O, rowAt_O, set_O, sub_O, rowZ_O, c_B0, c_B1, setRow_B, rowLen_B, cat1_B, rowAt_B, set_B, sub_B, rowZ_B, c_M0, c_M1, c_M2, c_M3, c_M4, c_M5, c_M6, setRow_M, rowLen_M, cat1_M, rowAt_M, set_M, sub_M, rowZ_M, c_C0, c_C1, c_C2, c_C3, c_C4, c_C5, c_C6, c_C7, c_C8, c_C9, c_C10, c_C11, c_C12, setRow_C, rowLen_C, cat1_C, rowAt_C, set_C, sub_C, rowZ_C, c_F0, c_F1, c_F2, c_F3, setRow_F, rowLen_F, cat1_F, rowAt_F, set_F, sub_F, rowZ_F, c_W0, c_W1, c_W2, setRow_W, rowLen_W, cat1_W, rowAt_W, set_W, sub_W, rowZ_W, c_Ws0, setRow_Ws, rowLen_Ws, cat1_Ws, rowAt_Ws, set_Ws, sub_Ws, rowZ_Ws, c_Wt0, c_Wt1, c_Wt2, c_Wt3, setRow_Wt, rowLen_Wt, cat1_Wt, rowAt_Wt, set_Wt, sub_Wt, rowZ_Wt, c_St0, c_St1, setRow_St, rowLen_St, cat1_St, rowAt_St, set_St, sub_St, rowZ_St, c_T0, c_T1, setRow_T, rowLen_T, cat1_T, rowAt_T, set_T, sub_T, rowZ_T, c_E0, c_E1, c_E2, c_E3, c_E4, c_E5, setRow_E, rowLen_E, cat1_E, rowAt_E, set_E, sub_E, rowZ_E, catR_nil, catR_nilr, setRow_O0, setRow_O1, setRow_B0, setRow_B1, setRow_M0, setRow_M1, setRow_M2, setRow_M3, setRow_M4, setRow_M5, setRow_M6, setRow_C0, setRow_C1, setRow_C2, setRow_C3, setRow_C4, setRow_C5, setRow_C6, setRow_C7, setRow_C8, setRow_C9, setRow_C10, setRow_C11, setRow_C12, setRow_F0, setRow_F1, setRow_F2, setRow_F3, setRow_W0, setRow_W1, setRow_W2, setRow_Wt0, setRow_Wt1, setRow_Wt2, setRow_Wt3, setRow_St0, setRow_St1, setRow_T0, setRow_T1, setRow_E0, setRow_E1, setRow_E2, setRow_E3, setRow_E4, setRow_E5]
      by_cases l0 : 0 ≤ letS w1
      · rw [decide_eq_true l0]
        have hr : rawS w0 w1 rest = match commitS rest (-1) (-1) with | some (x, y) => some ⟨1, letS w1, x, y, 0, []⟩ | none => none := by
          unfold rawS
          rw [if_neg (by omega), if_pos c1]
          rfl
        rw [hr]
        cases hcs : commitS rest (-1) (-1) with
        | none =>
          rw [hcs] at hm
          simp only at hm
          rw [hm]; rfl
        | some q =>
          rw [hcs] at hm
          simp only at hm
          obtain ⟨hm1, hm2⟩ := hm
          subst hm1; subst hm2
          simp only [htx, bnd_some', bnd_none', br_true', br_false', gBool_b, gInt_i, gStr_s, gSl_r, gOwn_r, gRows_r, gMap_r, cellAt_zero, cellAt_succ, hdO_c, tlO_c, bNot_t, bNot_f, bNot_dec, bNot_bNot, br_bNot, len_rS, len_rI, len_rU, len_rO, len_rB, len_rM, len_rC, len_rF, len_rW, len_rWs, len_rWt, len_rSt, len_rT, len_rE, beq_self_eq_true, iEq_dec, iLt_dec, iLe_dec, bAnd_dec, bAnd_t, bAnd_f, bAnd_r, sLen_bs, sCat_bs, sEq_bs, sSub_ok, nrows_map, nrows_nil, nrows_one, nrows_cons, catR_map, catR_snoc, rowsStr_one, gTupN_if, gAggN_if, gCellsN_if, decide_true, decide_false, decide_eq_true_eq, if_true, if_false, ite_true, ite_false, true_and, and_true, false_and, and_false, not_true_eq_false, not_false_eq_true, Bool.false_eq_true, Bool.true_eq_false, reduceCtorEq, List.length_cons, List.length_nil, Int.reduceLE, Int.reduceLT, Int.reduceEq, Int.reduceNeg, Nat.reduceAdd, Int.toNat_natCast, okR_S, okR_I, okR_U, okR_O, okR_B, okR_M, okR_C, okR_F, okR_W, okR_Ws, okR_Wt, okR_St, okR_T, okR_E, okR_cons, okR_nil, Bool.and_self, iEq_self, ↓dec_selfI, ↓dec_selfS, c_S0, setRow_S, rowLen_S, cat1_S, rowAt_S, set_S, sub_S, rowZ_S, c_I0, setRow_I, rowLen_I, cat1_I, rowAt_I, set_I, sub_I, rowZ_I, c_U0, setRow_U, rowLen_U, cat1_U, rowAt_U, set_U, sub_U, rowZ_U, c_O0, c_O1, setRow_O, rowLen_O, cat1_O, rowAt_O, set_O, sub_O, rowZ_O, c_B0, c_B1, setRow_B, rowLen_B, cat1_B, rowAt_B, set_B, sub_B, rowZ_B, c_M0, c_M1, c_M2, c_M3, c_M4, c_M5, c_M6, setRow_M, rowLen_M, cat1_M, rowAt_M, set_M, sub_M, rowZ_M, c_C0, c_C1, c_C2, c_C3, c_C4, c_C5, c_C6, c_C7, c_C8, c_C9, c_C10, c_C11, c_C12, setRow_C, rowLen_C, cat1_C, rowAt_C, set_C, sub_C, rowZ_C, c_F0, c_F1, c_F2, c_F3, setRow_F, rowLen_F, cat1_F, rowAt_F, set_F, sub_F, rowZ_F, c_W0, c_W1, c_W2, setRow_W, rowLen_W, cat1_W, rowAt_W, set_W, sub_W, rowZ_W, c_Ws0, setRow_Ws, rowLen_Ws, cat1_Ws, rowAt_Ws, set_Ws, sub_Ws, rowZ_Ws, c_Wt0, c_Wt1, c_Wt2, c_Wt3, setRow_Wt, rowLen_Wt, cat1_Wt, rowAt_Wt, set_Wt, sub_Wt, rowZ_Wt, c_St0, c_St1, setRow_St, rowLen_St, cat1_St, rowAt_St, set_St, sub_St, rowZ_St, c_T0, c_T1, setRow_T, rowLen_T, cat1_T, rowAt_T, set_T, sub_T, rowZ_T, c_E0, c_E1, c_E2, c_E3, c_E4, c_E5, setRow_E, rowLen_E, cat1_E, rowAt_E, set_E, sub_E, rowZ_E, catR_nil, catR_nilr, setRow_O0, setRow_O1, setRow_B0, setRow_B1, setRow_M0, setRow_M1, setRow_M2, setRow_M3, setRow_M4, setRow_M5, setRow_M6, setRow_C0, setRow_C1, setRow_C2, setRow_C3, setRow_C4, setRow_C5, setRow_C6, setRow_C7, setRow_C8, setRow_C9, setRow_C10, setRow_C11, setRow_C12, setRow_F0, setRow_F1, setRow_F2, setRow_F3, setRow_W0, setRow_W1, setRow_W2, setRow_Wt0, setRow_Wt1, setRow_Wt2, setRow_Wt3, setRow_St0, setRow_St1, setRow_T0, setRow_T1, setRow_E0, setRow_E1, setRow_E2, setRow_E3, setRow_E4, setRow_E5]
          exact tail_acc 1 (letS w1) q.1 q.2 0 [] s
      · rw [decide_eq_false l0]
        have hr : rawS w0 w1 rest = none := by unfold rawS; rw [if_pos (by omega)]
        rw [hr]; rfl
    rw [decide_eq_false c1]
    by_cases l0 : 0 ≤ letS w1
    case neg =>
      have hr : rawS w0 w1 rest = none := by unfold rawS; rw [if_pos (by omega)]
      rw [hr, decide_eq_false l0]
      have nn : (¬¬ (0 ≤ letS w1)) ↔ False := ⟨fun h => h l0, False.elim⟩
      simp only [br_false', hk, bnd_some', gInt_i, nn, decide_false]
      cases decide (w0 = wSteal) <;> cases decide (w0 = wSay) <;> cases decide (w0 = wHear) <;> cases decide (w0 = wJoin) <;> cases decide (w0 = wGet) <;> rfl
    rw [decide_eq_true l0]
    have nn : (¬¬ (0 ≤ letS w1)) ↔ True := ⟨fun _ => trivial, fun _ h => h l0⟩
    simp only [br_false', br_true', hk, bnd_some', gInt_i, nn, decide_true]
    by_cases c2 : w0 = wSteal
    · rw [decide_eq_true c2]
      have hr : rawS w0 w1 rest = if rest = [] then some ⟨4, letS w1, 0, 0, 0, []⟩ else none := by
        unfold rawS
        rw [if_neg (by omega), if_neg c1, if_pos c2]
      rw [hr]
      match rest with
      | [] =>
        simp only [htx, bnd_some', bnd_none', br_true', br_false', gBool_b, gInt_i, gStr_s, gSl_r, gOwn_r, gRows_r, gMap_r, cellAt_zero, cellAt_succ, hdO_c, tlO_c, bNot_t, bNot_f, bNot_dec, bNot_bNot, br_bNot, len_rS, len_rI, len_rU, len_rO, len_rB, len_rM, len_rC, len_rF, len_rW, len_rWs, len_rWt, len_rSt, len_rT, len_rE, beq_self_eq_true, iEq_dec, iLt_dec, iLe_dec, bAnd_dec, bAnd_t, bAnd_f, bAnd_r, sLen_bs, sCat_bs, sEq_bs, sSub_ok, nrows_map, nrows_nil, nrows_one, nrows_cons, catR_map, catR_snoc, rowsStr_one, gTupN_if, gAggN_if, gCellsN_if, decide_true, decide_false, decide_eq_true_eq, if_true, if_false, ite_true, ite_false, true_and, and_true, false_and, and_false, not_true_eq_false, not_false_eq_true, Bool.false_eq_true, Bool.true_eq_false, reduceCtorEq, List.length_cons, List.length_nil, Int.reduceLE, Int.reduceLT, Int.reduceEq, Int.reduceNeg, Nat.reduceAdd, Int.toNat_natCast, okR_S, okR_I, okR_U, okR_O, okR_B, okR_M, okR_C, okR_F, okR_W, okR_Ws, okR_Wt, okR_St, okR_T, okR_E, okR_cons, okR_nil, Bool.and_self, iEq_self, ↓dec_selfI, ↓dec_selfS, c_S0, setRow_S, rowLen_S, cat1_S, rowAt_S, set_S, sub_S, rowZ_S, c_I0, setRow_I, rowLen_I, cat1_I, rowAt_I, set_I, sub_I, rowZ_I, c_U0, setRow_U, rowLen_U, cat1_U, rowAt_U, set_U, sub_U, rowZ_U, c_O0, c_O1, setRow_O, rowLen_O, cat1_O, rowAt_O, set_O, sub_O, rowZ_O, c_B0, c_B1, setRow_B, rowLen_B, cat1_B, rowAt_B, set_B, sub_B, rowZ_B, c_M0, c_M1, c_M2, c_M3, c_M4, c_M5, c_M6, setRow_M, rowLen_M, cat1_M, rowAt_M, set_M, sub_M, rowZ_M, c_C0, c_C1, c_C2, c_C3, c_C4, c_C5, c_C6, c_C7, c_C8, c_C9, c_C10, c_C11, c_C12, setRow_C, rowLen_C, cat1_C, rowAt_C, set_C, sub_C, rowZ_C, c_F0, c_F1, c_F2, c_F3, setRow_F, rowLen_F, cat1_F, rowAt_F, set_F, sub_F, rowZ_F, c_W0, c_W1, c_W2, setRow_W, rowLen_W, cat1_W, rowAt_W, set_W, sub_W, rowZ_W, c_Ws0, setRow_Ws, rowLen_Ws, cat1_Ws, rowAt_Ws, set_Ws, sub_Ws, rowZ_Ws, c_Wt0, c_Wt1, c_Wt2, c_Wt3, setRow_Wt, rowLen_Wt, cat1_Wt, rowAt_Wt, set_Wt, sub_Wt, rowZ_Wt, c_St0, c_St1, setRow_St, rowLen_St, cat1_St, rowAt_St, set_St, sub_St, rowZ_St, c_T0, c_T1, setRow_T, rowLen_T, cat1_T, rowAt_T, set_T, sub_T, rowZ_T, c_E0, c_E1, c_E2, c_E3, c_E4, c_E5, setRow_E, rowLen_E, cat1_E, rowAt_E, set_E, sub_E, rowZ_E, catR_nil, catR_nilr, setRow_O0, setRow_O1, setRow_B0, setRow_B1, setRow_M0, setRow_M1, setRow_M2, setRow_M3, setRow_M4, setRow_M5, setRow_M6, setRow_C0, setRow_C1, setRow_C2, setRow_C3, setRow_C4, setRow_C5, setRow_C6, setRow_C7, setRow_C8, setRow_C9, setRow_C10, setRow_C11, setRow_C12, setRow_F0, setRow_F1, setRow_F2, setRow_F3, setRow_W0, setRow_W1, setRow_W2, setRow_Wt0, setRow_Wt1, setRow_Wt2, setRow_Wt3, setRow_St0, setRow_St1, setRow_T0, setRow_T1, setRow_E0, setRow_E1, setRow_E2, setRow_E3, setRow_E4, setRow_E5]
        exact tail_acc 4 (letS w1) 0 0 0 [] s
      | a :: r =>
        have n3 : decide (¬¬ (((a :: r).length : Int) + 1 + 1 = 2)) = false := by rw [decide_eq_false_iff_not]; simp only [List.length_cons]; omega
        rw [n3]; rfl
    rw [decide_eq_false c2]
    by_cases c3 : w0 = wSay
    · rw [decide_eq_true c3]
      have hr : rawS w0 w1 rest = match (generalizing := false) rest with | [a] => some ⟨5, letS w1, 0, 0, 0, a⟩ | _ => none := by
        unfold rawS
        rw [if_neg (by omega), if_neg c1, if_neg c2, if_pos c3]
        rfl
      rw [hr]
      match rest with
      | [] => rfl
      | [a] =>
        simp only [htx, bnd_some', bnd_none', br_true', br_false', gBool_b, gInt_i, gStr_s, gSl_r, gOwn_r, gRows_r, gMap_r, cellAt_zero, cellAt_succ, hdO_c, tlO_c, bNot_t, bNot_f, bNot_dec, bNot_bNot, br_bNot, len_rS, len_rI, len_rU, len_rO, len_rB, len_rM, len_rC, len_rF, len_rW, len_rWs, len_rWt, len_rSt, len_rT, len_rE, beq_self_eq_true, iEq_dec, iLt_dec, iLe_dec, bAnd_dec, bAnd_t, bAnd_f, bAnd_r, sLen_bs, sCat_bs, sEq_bs, sSub_ok, nrows_map, nrows_nil, nrows_one, nrows_cons, catR_map, catR_snoc, rowsStr_one, gTupN_if, gAggN_if, gCellsN_if, decide_true, decide_false, decide_eq_true_eq, if_true, if_false, ite_true, ite_false, true_and, and_true, false_and, and_false, not_true_eq_false, not_false_eq_true, Bool.false_eq_true, Bool.true_eq_false, reduceCtorEq, List.length_cons, List.length_nil, Int.reduceLE, Int.reduceLT, Int.reduceEq, Int.reduceNeg, Nat.reduceAdd, Int.toNat_natCast, okR_S, okR_I, okR_U, okR_O, okR_B, okR_M, okR_C, okR_F, okR_W, okR_Ws, okR_Wt, okR_St, okR_T, okR_E, okR_cons, okR_nil, Bool.and_self, iEq_self, ↓dec_selfI, ↓dec_selfS, c_S0, setRow_S, rowLen_S, cat1_S, rowAt_S, set_S, sub_S, rowZ_S, c_I0, setRow_I, rowLen_I, cat1_I, rowAt_I, set_I, sub_I, rowZ_I, c_U0, setRow_U, rowLen_U, cat1_U, rowAt_U, set_U, sub_U, rowZ_U, c_O0, c_O1, setRow_O, rowLen_O, cat1_O, rowAt_O, set_O, sub_O, rowZ_O, c_B0, c_B1, setRow_B, rowLen_B, cat1_B, rowAt_B, set_B, sub_B, rowZ_B, c_M0, c_M1, c_M2, c_M3, c_M4, c_M5, c_M6, setRow_M, rowLen_M, cat1_M, rowAt_M, set_M, sub_M, rowZ_M, c_C0, c_C1, c_C2, c_C3, c_C4, c_C5, c_C6, c_C7, c_C8, c_C9, c_C10, c_C11, c_C12, setRow_C, rowLen_C, cat1_C, rowAt_C, set_C, sub_C, rowZ_C, c_F0, c_F1, c_F2, c_F3, setRow_F, rowLen_F, cat1_F, rowAt_F, set_F, sub_F, rowZ_F, c_W0, c_W1, c_W2, setRow_W, rowLen_W, cat1_W, rowAt_W, set_W, sub_W, rowZ_W, c_Ws0, setRow_Ws, rowLen_Ws, cat1_Ws, rowAt_Ws, set_Ws, sub_Ws, rowZ_Ws, c_Wt0, c_Wt1, c_Wt2, c_Wt3, setRow_Wt, rowLen_Wt, cat1_Wt, rowAt_Wt, set_Wt, sub_Wt, rowZ_Wt, c_St0, c_St1, setRow_St, rowLen_St, cat1_St, rowAt_St, set_St, sub_St, rowZ_St, c_T0, c_T1, setRow_T, rowLen_T, cat1_T, rowAt_T, set_T, sub_T, rowZ_T, c_E0, c_E1, c_E2, c_E3, c_E4, c_E5, setRow_E, rowLen_E, cat1_E, rowAt_E, set_E, sub_E, rowZ_E, catR_nil, catR_nilr, setRow_O0, setRow_O1, setRow_B0, setRow_B1, setRow_M0, setRow_M1, setRow_M2, setRow_M3, setRow_M4, setRow_M5, setRow_M6, setRow_C0, setRow_C1, setRow_C2, setRow_C3, setRow_C4, setRow_C5, setRow_C6, setRow_C7, setRow_C8, setRow_C9, setRow_C10, setRow_C11, setRow_C12, setRow_F0, setRow_F1, setRow_F2, setRow_F3, setRow_W0, setRow_W1, setRow_W2, setRow_Wt0, setRow_Wt1, setRow_Wt2, setRow_Wt3, setRow_St0, setRow_St1, setRow_T0, setRow_T1, setRow_E0, setRow_E1, setRow_E2, setRow_E3, setRow_E4, setRow_E5, List.map_cons, rz2]
        exact tail_acc 5 (letS w1) 0 0 0 a s
      | a :: b :: r =>
        have n3 : decide (¬¬ (((a :: b :: r).length : Int) + 1 + 1 = 3)) = false := by rw [decide_eq_false_iff_not]; simp only [List.length_cons]; omega
        have n4 : decide (((a :: b :: r).length : Int) + 1 + 1 = 3) = false := by rw [decide_eq_false_iff_not]; simp only [List.length_cons]; omega
        rw [n4, n3]; rfl
    rw [decide_eq_false c3]
    have hnum := d_num L D hL
    have fin : ∀ kk : Int, (if w0 = wHear then (2 : Int) else if w0 = wJoin then 3 else 6) = kk → (w0 = wHear ∨ w0 = wJoin ∨ w0 = wGet) →
        rawS w0 w1 rest = match (generalizing := false) rest with | [a] => some ⟨kk, letS w1, 0, 0, numS a, []⟩ | _ => none := fun kk h1 h2 => by
      unfold rawS
      rw [if_neg (by omega), if_neg c1, if_neg c2, if_neg c3, if_pos h2, h1]
      rfl
    by_cases c4 : w0 = wHear
    · rw [decide_eq_true c4]
      have h1 : (if w0 = wHear then (2 : Int) else if w0 = wJoin then 3 else 6) = 2 := if_pos c4
      rw [fin 2 h1 (.inl c4)]
      simp only [h1]
      match rest with
      | [] => rfl
      | [a] =>
        have ha := hnum a (zr a (by simp))
        simp only [htx, ha, bnd_some', bnd_none', br_true', br_false', gBool_b, gInt_i, gStr_s, gSl_r, gOwn_r, gRows_r, gMap_r, cellAt_zero, cellAt_succ, hdO_c, tlO_c, bNot_t, bNot_f, bNot_dec, bNot_bNot, br_bNot, len_rS, len_rI, len_rU, len_rO, len_rB, len_rM, len_rC, len_rF, len_rW, len_rWs, len_rWt, len_rSt, len_rT, len_rE, beq_self_eq_true, iEq_dec, iLt_dec, iLe_dec, bAnd_dec, bAnd_t, bAnd_f, bAnd_r, sLen_bs, sCat_bs, sEq_bs, sSub_ok, nrows_map, nrows_nil, nrows_one, nrows_cons, catR_map, catR_snoc, rowsStr_one, gTupN_if, gAggN_if, gCellsN_if, decide_true, decide_false, decide_eq_true_eq, if_true, if_false, ite_true, ite_false, true_and, and_true, false_and, and_false, not_true_eq_false, not_false_eq_true, Bool.false_eq_true, Bool.true_eq_false, reduceCtorEq, List.length_cons, List.length_nil, Int.reduceLE, Int.reduceLT, Int.reduceEq, Int.reduceNeg, Nat.reduceAdd, Int.toNat_natCast, okR_S, okR_I, okR_U, okR_O, okR_B, okR_M, okR_C, okR_F, okR_W, okR_Ws, okR_Wt, okR_St, okR_T, okR_E, okR_cons, okR_nil, Bool.and_self, iEq_self, ↓dec_selfI, ↓dec_selfS, c_S0, setRow_S, rowLen_S, cat1_S, rowAt_S, set_S, sub_S, rowZ_S, c_I0, setRow_I, rowLen_I, cat1_I, rowAt_I, set_I, sub_I, rowZ_I, c_U0, setRow_U, rowLen_U, cat1_U, rowAt_U, set_U, sub_U, rowZ_U, c_O0, c_O1, setRow_O, rowLen_O, cat1_O, rowAt_O, set_O, sub_O, rowZ_O, c_B0, c_B1, setRow_B, rowLen_B, cat1_B, rowAt_B, set_B, sub_B, rowZ_B, c_M0, c_M1, c_M2, c_M3, c_M4, c_M5, c_M6, setRow_M, rowLen_M, cat1_M, rowAt_M, set_M, sub_M, rowZ_M, c_C0, c_C1, c_C2, c_C3, c_C4, c_C5, c_C6, c_C7, c_C8, c_C9, c_C10, c_C11, c_C12, setRow_C, rowLen_C, cat1_C, rowAt_C, set_C, sub_C, rowZ_C, c_F0, c_F1, c_F2, c_F3, setRow_F, rowLen_F, cat1_F, rowAt_F, set_F, sub_F, rowZ_F, c_W0, c_W1, c_W2, setRow_W, rowLen_W, cat1_W, rowAt_W, set_W, sub_W, rowZ_W, c_Ws0, setRow_Ws, rowLen_Ws, cat1_Ws, rowAt_Ws, set_Ws, sub_Ws, rowZ_Ws, c_Wt0, c_Wt1, c_Wt2, c_Wt3, setRow_Wt, rowLen_Wt, cat1_Wt, rowAt_Wt, set_Wt, sub_Wt, rowZ_Wt, c_St0, c_St1, setRow_St, rowLen_St, cat1_St, rowAt_St, set_St, sub_St, rowZ_St, c_T0, c_T1, setRow_T, rowLen_T, cat1_T, rowAt_T, set_T, sub_T, rowZ_T, c_E0, c_E1, c_E2, c_E3, c_E4, c_E5, setRow_E, rowLen_E, cat1_E, rowAt_E, set_E, sub_E, rowZ_E, catR_nil, catR_nilr, setRow_O0, setRow_O1, setRow_B0, setRow_B1, setRow_M0, setRow_M1, setRow_M2, setRow_M3, setRow_M4, setRow_M5, setRow_M6, setRow_C0, setRow_C1, setRow_C2, setRow_C3, setRow_C4, setRow_C5, setRow_C6, setRow_C7, setRow_C8, setRow_C9, setRow_C10, setRow_C11, setRow_C12, setRow_F0, setRow_F1, setRow_F2, setRow_F3, setRow_W0, setRow_W1, setRow_W2, setRow_Wt0, setRow_Wt1, setRow_Wt2, setRow_Wt3, setRow_St0, setRow_St1, setRow_T0, setRow_T1, setRow_E0, setRow_E1, setRow_E2, setRow_E3, setRow_E4, setRow_E5, List.map_cons, rz2]
        exact tail_acc 2 (letS w1) 0 0 (numS a) [] s
      | a :: b :: r =>
        have n3 : decide (¬¬ (((a :: b :: r).length : Int) + 1 + 1 = 3)) = false := by rw [decide_eq_false_iff_not]; simp only [List.length_cons]; omega
        have n4 : decide (((a :: b :: r).length : Int) + 1 + 1 = 3) = false := by rw [decide_eq_false_iff_not]; simp only [List.length_cons]; omega
        rw [n4, n3]; rfl
    rw [decide_eq_false c4]
    by_cases c5 : w0 = wJoin
    · rw [decide_eq_true c5]
      have h1 : (if w0 = wHear then (2 : Int) else if w0 = wJoin then 3 else 6) = 3 := by rw [if_neg c4, if_pos c5]
      rw [fin 3 h1 (.inr (.inl c5))]
      simp only [h1]
      match rest with
      | [] => rfl
      | [a] =>
        have ha := hnum a (zr a (by simp))
        simp only [htx, ha, bnd_some', bnd_none', br_true', br_false', gBool_b, gInt_i, gStr_s, gSl_r, gOwn_r, gRows_r, gMap_r, cellAt_zero, cellAt_succ, hdO_c, tlO_c, bNot_t, bNot_f, bNot_dec, bNot_bNot, br_bNot, len_rS, len_rI, len_rU, len_rO, len_rB, len_rM, len_rC, len_rF, len_rW, len_rWs, len_rWt, len_rSt, len_rT, len_rE, beq_self_eq_true, iEq_dec, iLt_dec, iLe_dec, bAnd_dec, bAnd_t, bAnd_f, bAnd_r, sLen_bs, sCat_bs, sEq_bs, sSub_ok, nrows_map, nrows_nil, nrows_one, nrows_cons, catR_map, catR_snoc, rowsStr_one, gTupN_if, gAggN_if, gCellsN_if, decide_true, decide_false, decide_eq_true_eq, if_true, if_false, ite_true, ite_false, true_and, and_true, false_and, and_false, not_true_eq_false, not_false_eq_true, Bool.false_eq_true, Bool.true_eq_false, reduceCtorEq, List.length_cons, List.length_nil, Int.reduceLE, Int.reduceLT, Int.reduceEq, Int.reduceNeg, Nat.reduceAdd, Int.toNat_natCast, okR_S, okR_I, okR_U, okR_O, okR_B, okR_M, okR_C, okR_F, okR_W, okR_Ws, okR_Wt, okR_St, okR_T, okR_E, okR_cons, okR_nil, Bool.and_self, iEq_self, ↓dec_selfI, ↓dec_selfS, c_S0, setRow_S, rowLen_S, cat1_S, rowAt_S, set_S, sub_S, rowZ_S, c_I0, setRow_I, rowLen_I, cat1_I, rowAt_I, set_I, sub_I, rowZ_I, c_U0, setRow_U, rowLen_U, cat1_U, rowAt_U, set_U, sub_U, rowZ_U, c_O0, c_O1, setRow_O, rowLen_O, cat1_O, rowAt_O, set_O, sub_O, rowZ_O, c_B0, c_B1, setRow_B, rowLen_B, cat1_B, rowAt_B, set_B, sub_B, rowZ_B, c_M0, c_M1, c_M2, c_M3, c_M4, c_M5, c_M6, setRow_M, rowLen_M, cat1_M, rowAt_M, set_M, sub_M, rowZ_M, c_C0, c_C1, c_C2, c_C3, c_C4, c_C5, c_C6, c_C7, c_C8, c_C9, c_C10, c_C11, c_C12, setRow_C, rowLen_C, cat1_C, rowAt_C, set_C, sub_C, rowZ_C, c_F0, c_F1, c_F2, c_F3, setRow_F, rowLen_F, cat1_F, rowAt_F, set_F, sub_F, rowZ_F, c_W0, c_W1, c_W2, setRow_W, rowLen_W, cat1_W, rowAt_W, set_W, sub_W, rowZ_W, c_Ws0, setRow_Ws, rowLen_Ws, cat1_Ws, rowAt_Ws, set_Ws, sub_Ws, rowZ_Ws, c_Wt0, c_Wt1, c_Wt2, c_Wt3, setRow_Wt, rowLen_Wt, cat1_Wt, rowAt_Wt, set_Wt, sub_Wt, rowZ_Wt, c_St0, c_St1, setRow_St, rowLen_St, cat1_St, rowAt_St, set_St, sub_St, rowZ_St, c_T0, c_T1, setRow_T, rowLen_T, cat1_T, rowAt_T, set_T, sub_T, rowZ_T, c_E0, c_E1, c_E2, c_E3, c_E4, c_E5, setRow_E, rowLen_E, cat1_E, rowAt_E, set_E, sub_E, rowZ_E, catR_nil, catR_nilr, setRow_O0, setRow_O1, setRow_B0, setRow_B1, setRow_M0, setRow_M1, setRow_M2, setRow_M3, setRow_M4, setRow_M5, setRow_M6, setRow_C0, setRow_C1, setRow_C2, setRow_C3, setRow_C4, setRow_C5, setRow_C6, setRow_C7, setRow_C8, setRow_C9, setRow_C10, setRow_C11, setRow_C12, setRow_F0, setRow_F1, setRow_F2, setRow_F3, setRow_W0, setRow_W1, setRow_W2, setRow_Wt0, setRow_Wt1, setRow_Wt2, setRow_Wt3, setRow_St0, setRow_St1, setRow_T0, setRow_T1, setRow_E0, setRow_E1, setRow_E2, setRow_E3, setRow_E4, setRow_E5, List.map_cons, rz2]
        exact tail_acc 3 (letS w1) 0 0 (numS a) [] s
      | a :: b :: r =>
        have n3 : decide (¬¬ (((a :: b :: r).length : Int) + 1 + 1 = 3)) = false := by rw [decide_eq_false_iff_not]; simp only [List.length_cons]; omega
        have n4 : decide (((a :: b :: r).length : Int) + 1 + 1 = 3) = false := by rw [decide_eq_false_iff_not]; simp only [List.length_cons]; omega
        rw [n4, n3]; rfl
    rw [decide_eq_false c5]
    by_cases c6 : w0 = wGet
    · rw [decide_eq_true c6]
      have h1 : (if w0 = wHear then (2 : Int) else if w0 = wJoin then 3 else 6) = 6 := by rw [if_neg c4, if_neg c5]
      rw [fin 6 h1 (.inr (.inr c6))]
      simp only [h1]
      match rest with
      | [] => rfl
      | [a] =>
        have ha := hnum a (zr a (by simp))
        simp only [htx, ha, bnd_some', bnd_none', br_true', br_false', gBool_b, gInt_i, gStr_s, gSl_r, gOwn_r, gRows_r, gMap_r, cellAt_zero, cellAt_succ, hdO_c, tlO_c, bNot_t, bNot_f, bNot_dec, bNot_bNot, br_bNot, len_rS, len_rI, len_rU, len_rO, len_rB, len_rM, len_rC, len_rF, len_rW, len_rWs, len_rWt, len_rSt, len_rT, len_rE, beq_self_eq_true, iEq_dec, iLt_dec, iLe_dec, bAnd_dec, bAnd_t, bAnd_f, bAnd_r, sLen_bs, sCat_bs, sEq_bs, sSub_ok, nrows_map, nrows_nil, nrows_one, nrows_cons, catR_map, catR_snoc, rowsStr_one, gTupN_if, gAggN_if, gCellsN_if, decide_true, decide_false, decide_eq_true_eq, if_true, if_false, ite_true, ite_false, true_and, and_true, false_and, and_false, not_true_eq_false, not_false_eq_true, Bool.false_eq_true, Bool.true_eq_false, reduceCtorEq, List.length_cons, List.length_nil, Int.reduceLE, Int.reduceLT, Int.reduceEq, Int.reduceNeg, Nat.reduceAdd, Int.toNat_natCast, okR_S, okR_I, okR_U, okR_O, okR_B, okR_M, okR_C, okR_F, okR_W, okR_Ws, okR_Wt, okR_St, okR_T, okR_E, okR_cons, okR_nil, Bool.and_self, iEq_self, ↓dec_selfI, ↓dec_selfS, c_S0, setRow_S, rowLen_S, cat1_S, rowAt_S, set_S, sub_S, rowZ_S, c_I0, setRow_I, rowLen_I, cat1_I, rowAt_I, set_I, sub_I, rowZ_I, c_U0, setRow_U, rowLen_U, cat1_U, rowAt_U, set_U, sub_U, rowZ_U, c_O0, c_O1, setRow_O, rowLen_O, cat1_O, rowAt_O, set_O, sub_O, rowZ_O, c_B0, c_B1, setRow_B, rowLen_B, cat1_B, rowAt_B, set_B, sub_B, rowZ_B, c_M0, c_M1, c_M2, c_M3, c_M4, c_M5, c_M6, setRow_M, rowLen_M, cat1_M, rowAt_M, set_M, sub_M, rowZ_M, c_C0, c_C1, c_C2, c_C3, c_C4, c_C5, c_C6, c_C7, c_C8, c_C9, c_C10, c_C11, c_C12, setRow_C, rowLen_C, cat1_C, rowAt_C, set_C, sub_C, rowZ_C, c_F0, c_F1, c_F2, c_F3, setRow_F, rowLen_F, cat1_F, rowAt_F, set_F, sub_F, rowZ_F, c_W0, c_W1, c_W2, setRow_W, rowLen_W, cat1_W, rowAt_W, set_W, sub_W, rowZ_W, c_Ws0, setRow_Ws, rowLen_Ws, cat1_Ws, rowAt_Ws, set_Ws, sub_Ws, rowZ_Ws, c_Wt0, c_Wt1, c_Wt2, c_Wt3, setRow_Wt, rowLen_Wt, cat1_Wt, rowAt_Wt, set_Wt, sub_Wt, rowZ_Wt, c_St0, c_St1, setRow_St, rowLen_St, cat1_St, rowAt_St, set_St, sub_St, rowZ_St, c_T0, c_T1, setRow_T, rowLen_T, cat1_T, rowAt_T, set_T, sub_T, rowZ_T, c_E0, c_E1, c_E2, c_E3, c_E4, c_E5, setRow_E, rowLen_E, cat1_E, rowAt_E, set_E, sub_E, rowZ_E, catR_nil, catR_nilr, setRow_O0, setRow_O1, setRow_B0, setRow_B1, setRow_M0, setRow_M1, setRow_M2, setRow_M3, setRow_M4, setRow_M5, setRow_M6, setRow_C0, setRow_C1, setRow_C2, setRow_C3, setRow_C4, setRow_C5, setRow_C6, setRow_C7, setRow_C8, setRow_C9, setRow_C10, setRow_C11, setRow_C12, setRow_F0, setRow_F1, setRow_F2, setRow_F3, setRow_W0, setRow_W1, setRow_W2, setRow_Wt0, setRow_Wt1, setRow_Wt2, setRow_Wt3, setRow_St0, setRow_St1, setRow_T0, setRow_T1, setRow_E0, setRow_E1, setRow_E2, setRow_E3, setRow_E4, setRow_E5, List.map_cons, rz2]
        exact tail_acc 6 (letS w1) 0 0 (numS a) [] s
      | a :: b :: r =>
        have n3 : decide (¬¬ (((a :: b :: r).length : Int) + 1 + 1 = 3)) = false := by rw [decide_eq_false_iff_not]; simp only [List.length_cons]; omega
        have n4 : decide (((a :: b :: r).length : Int) + 1 + 1 = 3) = false := by rw [decide_eq_false_iff_not]; simp only [List.length_cons]; omega
        rw [n4, n3]; rfl
    rw [decide_eq_false c6]
    have hr : rawS w0 w1 rest = some ⟨0, letS w1, 0, 0, 0, []⟩ := by
      unfold rawS
      rw [if_neg (by omega), if_neg c1, if_neg c2, if_neg c3, if_neg (fun x => x.elim c4 fun x => x.elim c5 c6)]
    rw [hr]
    simp only [htx, bnd_some', bnd_none', br_true', br_false', gBool_b, gInt_i, gStr_s, gSl_r, gOwn_r, gRows_r, gMap_r, cellAt_zero, cellAt_succ, hdO_c, tlO_c, bNot_t, bNot_f, bNot_dec, bNot_bNot, br_bNot, len_rS, len_rI, len_rU, len_rO, len_rB, len_rM, len_rC, len_rF, len_rW, len_rWs, len_rWt, len_rSt, len_rT, len_rE, beq_self_eq_true, iEq_dec, iLt_dec, iLe_dec, bAnd_dec, bAnd_t, bAnd_f, bAnd_r, sLen_bs, sCat_bs, sEq_bs, sSub_ok, nrows_map, nrows_nil, nrows_one, nrows_cons, catR_map, catR_snoc, rowsStr_one, gTupN_if, gAggN_if, gCellsN_if, decide_true, decide_false, decide_eq_true_eq, if_true, if_false, ite_true, ite_false, true_and, and_true, false_and, and_false, not_true_eq_false, not_false_eq_true, Bool.false_eq_true, Bool.true_eq_false, reduceCtorEq, List.length_cons, List.length_nil, Int.reduceLE, Int.reduceLT, Int.reduceEq, Int.reduceNeg, Nat.reduceAdd, Int.toNat_natCast, okR_S, okR_I, okR_U, okR_O, okR_B, okR_M, okR_C, okR_F, okR_W, okR_Ws, okR_Wt, okR_St, okR_T, okR_E, okR_cons, okR_nil, Bool.and_self, iEq_self, ↓dec_selfI, ↓dec_selfS, c_S0, setRow_S, rowLen_S, cat1_S, rowAt_S, set_S, sub_S, rowZ_S, c_I0, setRow_I, rowLen_I, cat1_I, rowAt_I, set_I, sub_I, rowZ_I, c_U0, setRow_U, rowLen_U, cat1_U, rowAt_U, set_U, sub_U, rowZ_U, c_O0, c_O1, setRow_O, rowLen_O, cat1_O, rowAt_O, set_O, sub_O, rowZ_O, c_B0, c_B1, setRow_B, rowLen_B, cat1_B, rowAt_B, set_B, sub_B, rowZ_B, c_M0, c_M1, c_M2, c_M3, c_M4, c_M5, c_M6, setRow_M, rowLen_M, cat1_M, rowAt_M, set_M, sub_M, rowZ_M, c_C0, c_C1, c_C2, c_C3, c_C4, c_C5, c_C6, c_C7, c_C8, c_C9, c_C10, c_C11, c_C12, setRow_C, rowLen_C, cat1_C, rowAt_C, set_C, sub_C, rowZ_C, c_F0, c_F1, c_F2, c_F3, setRow_F, rowLen_F, cat1_F, rowAt_F, set_F, sub_F, rowZ_F, c_W0, c_W1, c_W2, setRow_W, rowLen_W, cat1_W, rowAt_W, set_W, sub_W, rowZ_W, c_Ws0, setRow_Ws, rowLen_Ws, cat1_Ws, rowAt_Ws, set_Ws, sub_Ws, rowZ_Ws, c_Wt0, c_Wt1, c_Wt2, c_Wt3, setRow_Wt, rowLen_Wt, cat1_Wt, rowAt_Wt, set_Wt, sub_Wt, rowZ_Wt, c_St0, c_St1, setRow_St, rowLen_St, cat1_St, rowAt_St, set_St, sub_St, rowZ_St, c_T0, c_T1, setRow_T, rowLen_T, cat1_T, rowAt_T, set_T, sub_T, rowZ_T, c_E0, c_E1, c_E2, c_E3, c_E4, c_E5, setRow_E, rowLen_E, cat1_E, rowAt_E, set_E, sub_E, rowZ_E, catR_nil, catR_nilr, setRow_O0, setRow_O1, setRow_B0, setRow_B1, setRow_M0, setRow_M1, setRow_M2, setRow_M3, setRow_M4, setRow_M5, setRow_M6, setRow_C0, setRow_C1, setRow_C2, setRow_C3, setRow_C4, setRow_C5, setRow_C6, setRow_C7, setRow_C8, setRow_C9, setRow_C10, setRow_C11, setRow_C12, setRow_F0, setRow_F1, setRow_F2, setRow_F3, setRow_W0, setRow_W1, setRow_W2, setRow_Wt0, setRow_Wt1, setRow_Wt2, setRow_Wt3, setRow_St0, setRow_St1, setRow_T0, setRow_T1, setRow_E0, setRow_E1, setRow_E2, setRow_E3, setRow_E4, setRow_E5]
    exact tail_acc 0 (letS w1) 0 0 0 [] s
end
end Kw
