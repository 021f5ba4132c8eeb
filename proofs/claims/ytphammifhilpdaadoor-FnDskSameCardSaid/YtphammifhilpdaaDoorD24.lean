import Derived.Test.YtphammifhilpdaaDoorD23
namespace Kw
set_option linter.unusedVariables false
set_option linter.unusedSimpArgs false
set_option linter.unusedSectionVars false
open Go Go.Proofs
section
variable (L D : Nat)
theorem one_lt (a b : Row) (l : List Row) : decide (1 < nrows (a :: b :: l)) = true := by
  rw [decide_eq_true_eq]; unfold nrows; simp only [List.length_cons]; omega
theorem one_lt1 (a : Row) : iLt 1 (nrows [a]) = false := rfl
theorem one_lt0 : iLt 1 (nrows []) = false := rfl
theorem lp_pairs (hL : 1099511627776 ≤ L) (i0 i1 i2 i3 i4 : Int) (s5 : ByteArray) (k w p : Int) (t s : S) (ht : t.length ≤ 2000000) : ∀ (ws : List S) (m : Nat) (x y : Int), ws.length < m → (∀ s ∈ ws, s.length ≤ 2000000) →
    LP_11_10 L (D + 3) m i0 i1 i2 i3 i4 s5 k w x y p (bs t) (bs s) (ws.map rS) = some (resD (if txt ⟨k, w, (pairsI ws x y).1, (pairsI ws x y).2, p, t⟩ = s then some ⟨k, w, (pairsI ws x y).1, (pairsI ws x y).2, p, t⟩ else none), [])
  | _, 0, _, _, h, _ => by omega
  | [], m + 1, x, y, h, hs => by
    rw [LP_11_10_succ]
    have hx := i_txt L D hL k w x y p t ht
    simp only [List.map_nil, one_lt0, br_false', hx, bnd_some', gStr_s, sEq_bs, br_bNot]
    exact tail_acc k w x y p t s
  | [a], m + 1, x, y, h, hs => by
    rw [LP_11_10_succ]
    have hx := i_txt L D hL k w x y p t ht
    simp only [List.map_cons, List.map_nil, one_lt1, br_false', hx, bnd_some', gStr_s, sEq_bs, br_bNot]
    exact tail_acc k w x y p t s
  | a :: b :: r, m + 1, x, y, h, hs => by
    rw [LP_11_10_succ]
    have hb := i_one L D b (hs b (by simp))
    have ihA := lp_pairs hL i0 i1 i2 i3 i4 s5 k w p t s ht r m (oneI b) y (by simp at h; omega) (fun s h => hs s (by simp [h]))
    have ihR := lp_pairs hL i0 i1 i2 i3 i4 s5 k w p t s ht r m x (oneI b) (by simp at h; omega) (fun s h => hs s (by simp [h]))
    have hok := okR_ab a b r
    have e1 : sEq (bs a) (bs [97, 100, 100]) = decide (a = wAdd) := sEq_bs a wAdd
    have c1 : pairsI (a :: b :: r) x y = if a = wAdd then pairsI r (oneI b) y else pairsI r x (oneI b) := rfl
    simp only [List.map_cons, one_lt, two_le_d, two_le_0, rz0, rz1, c_S0, bnd_some', gStr_s, hb, gInt_i, br_true', e1, subR_two, self_le, hok, bAnd_t, iLt_dec, iLe_dec]
    by_cases ha : a = wAdd
    · rw [decide_eq_true ha, c1, if_pos ha]
      exact ihA
    · rw [decide_eq_false ha, c1, if_neg ha]
      exact ihR
theorem d_impl (hL : 1099511627776 ≤ L) (s : S) (hs : s.length ≤ 2000000) : ev E L (D + 4) 11 [.str (bs s)] [] = some (resD (dskI s), []) := by
  rw [eq_11]
  have hw := x_split L (D + 2) s hs
  have hsz := spl_size s []
  have hln := spl_len s []
  have hcnt : s.count 32 ≤ s.length := List.count_le_length
  have htx := i_txt L D hL
  have hix := x_index L (D + 2) hL
  unfold dskI
  change _ = some (resD (match spl [] s with | w0 :: w1 :: rest => if 30 < s.length ∨ kindI w0 = 0 then none else if txt (rawI w0 w1 rest) = s then some (rawI w0 w1 rest) else none | _ => none), [])
  have hne : ∃ w0 ws, spl [] s = w0 :: ws := by
    match hq : spl [] s with
    | [] => exact absurd hq (spl_ne s [])
    | w0 :: ws => exact ⟨w0, ws, rfl⟩
  obtain ⟨w0, ws, hq⟩ := hne
  rw [hq] at hw hsz hln
  simp only [hw, bnd_some', gSl_r, cellAt_zero, List.map_cons, rz0, c_S0, gStr_s, hix, gInt_i, max_idx]
  by_cases h30 : 30 < s.length
  · have g : iLt 30 (sLen (bs s)) = true := by rw [iLt_dec, sLen_bs, decide_eq_true_eq]; omega
    have : (match spl [] s with | w0 :: w1 :: rest => if 30 < s.length ∨ kindI w0 = 0 then none else if txt (rawI w0 w1 rest) = s then some (rawI w0 w1 rest) else none | _ => none) = none := by
      split
      · rw [if_pos (.inl h30)]
      · rfl
    rw [this, g]
    rfl
  have g : iLt 30 (sLen (bs s)) = false := by rw [iLt_dec, sLen_bs, decide_eq_false_iff_not]; omega
  rw [g]
  simp only [bNot_f, br_true', iEq_dec]
  by_cases hk0 : kindI w0 = 0
  · have : (match spl [] s with | w0 :: w1 :: rest => if 30 < s.length ∨ kindI w0 = 0 then none else if txt (rawI w0 w1 rest) = s then some (rawI w0 w1 rest) else none | _ => none) = none := by
      rw [hq]
      split
      · rename_i e
        cases e
        rw [if_pos (.inr hk0)]
      · rfl
    rw [this, decide_eq_true hk0]
    rfl
  rw [decide_eq_false hk0]
  match ws with
  | [] =>
    rw [hq]
    rfl
  | w1 :: rest =>
    rw [hq]
    have z1 := hsz w1 (by simp)
    have zr : ∀ x ∈ rest, x.length ≤ 2000000 := fun x hx => by have := hsz x (by simp [hx]); simp at this; omega
    have hrl : rest.length ≤ 2000000 := by simp at hln; omega
    have n2 : iLt (nrows (rS w0 :: rS w1 :: rest.map rS)) 2 = false := by rw [iLt_dec, nrows_cons, nrows_cons, nrows_map, decide_eq_false_iff_not]; omega
    have hok := okR_ab w0 w1 rest
    have ho := i_one L D w1 (by simp at z1; omega)
    have hkr := kindI_rng w0
    have hat := x_atoi L (D + 2)
    show _ = some (resD (if 30 < s.length ∨ kindI w0 = 0 then none else if txt (rawI w0 w1 rest) = s then some (rawI w0 w1 rest) else none), [])
    rw [if_neg (fun x => x.elim h30 hk0)]
    simp only [bNot_f, br_true', br_false', List.map_cons, n2, rz1, bnd_some', c_S0, gStr_s, ho, gInt_i, hok, two_le, iLe02, self_le, bAnd_t, subR_two]
    have hraw : rawI w0 w1 rest = (if kindI w0 = 1 then ⟨1, oneI w1, (pairsI rest (-1) (-1)).1, (pairsI rest (-1) (-1)).2, 0, []⟩
      else if kindI w0 = 2 ∨ kindI w0 = 3 ∨ kindI w0 = 6 then ⟨kindI w0, oneI w1, 0, 0, (match (generalizing := false) rest with | [a] => atoiV a | _ => 0), []⟩
      else if kindI w0 = 5 then ⟨kindI w0, oneI w1, 0, 0, 0, (match (generalizing := false) rest with | [a] => a | _ => [])⟩
      else ⟨kindI w0, oneI w1, 0, 0, 0, []⟩ : Event) := rfl
    rw [hraw]
    have n01 : decide ((0 : Int) = 1) = false := rfl
    have n11 : decide ((1 : Int) = 1) = true := rfl
    generalize kindI w0 = kk at *
    rcases (by omega : kk = 1 ∨ kk = 2 ∨ kk = 3 ∨ kk = 4 ∨ kk = 5 ∨ kk = 6) with rfl | rfl | rfl | rfl | rfl | rfl
    · rw [if_pos (show (1 : Int) = 1 from rfl)]
      have d1 : decide ((1 : Int) = 1) = true := rfl
      rw [d1]
      exact lp_pairs L D hL 0 0 0 0 0 _ 1 (oneI w1) 0 [] s (by simp) rest L (-1) (-1) (by omega) zr
    · rw [if_neg (show ¬ (2 : Int) = 1 by decide), if_pos (show (2 : Int) = 2 ∨ (2 : Int) = 3 ∨ (2 : Int) = 6 by decide)]
      have d1 : decide ((2 : Int) = 1) = false := rfl
      have d2 : decide ((2 : Int) = 2) = true := rfl
      have d3 : decide ((2 : Int) = 3) = false := rfl
      have d6 : decide ((2 : Int) = 6) = false := rfl
      have d5 : decide ((2 : Int) = 5) = false := rfl
      have d4 : decide ((2 : Int) = 4) = false := rfl
      simp only [d1, d2, d3, d4, d5, d6, br_true', br_false']
      match rest with
      | [] =>
        have hx := htx 2 (oneI w1) 0 0 0 [] (by simp)
        simp only [List.map_nil, nrows_nil, n01, br_false', hx, bnd_some', gStr_s, sEq_bs, br_bNot]
        exact tail_acc 2 (oneI w1) 0 0 0 [] s
      | [a] =>
        have ha := hat a (zr a (by simp))
        have hx := htx 2 (oneI w1) 0 0 (atoiV a) [] (by simp)
        simp only [List.map_cons, List.map_nil, nrows_one, n11, br_true', rz0, ha, bnd_some', bnd_none', br_true', br_false', gBool_b, gInt_i, gStr_s, gSl_r, gOwn_r, gRows_r, gMap_r, cellAt_zero, cellAt_succ, hdO_c, tlO_c, bNot_t, bNot_f, bNot_dec, bNot_bNot, br_bNot, len_rS, len_rI, len_rU, len_rO, len_rB, len_rM, len_rC, len_rF, len_rW, len_rWs, len_rWt, len_rSt, len_rT, len_rE, beq_self_eq_true, iEq_dec, iLt_dec, iLe_dec, bAnd_dec, bAnd_t, bAnd_f, bAnd_r, sLen_bs, sCat_bs, sEq_bs, sSub_ok, nrows_map, nrows_nil, nrows_one, nrows_cons, catR_map, catR_snoc, rowsStr_one, gTupN_if, gAggN_if, gCellsN_if, decide_true, decide_false, decide_eq_true_eq, if_true, if_false, ite_true, ite_false, true_and, and_true, false_and, and_false, not_true_eq_false, not_false_eq_true, Bool.false_eq_true, Bool.true_eq_false, reduceCtorEq, List.length_cons, List.length_nil, Int.reduceLE, Int.reduceLT, Int.reduceEq, Int.reduceNeg, Nat.reduceAdd, Int.toNat_natCast, okR_S, okR_I, okR_U, okR_O, okR_B, okR_M, okR_C, okR_F, okR_W, okR_Ws, okR_Wt, okR_St, okR_T, okR_E, okR_cons, okR_nil, Bool.and_self, iEq_self, ↓dec_selfI, ↓dec_selfS, c_S0, setRow_S, rowLen_S, cat1_S, rowAt_S, set_S, sub_S, rowZ_S, c_I0, setRow_I, rowLen_I, cat1_I, rowAt_I, set_I, sub_I, rowZ_I, c_U0, setRow_U, rowLen_U, cat1_U, rowAt_U, set_U, sub_U, rowZ_U, c_O0, c_O1, setRow_O, rowLen_O, cat1_O, rowAt_O, set_O, sub_O, rowZ_O, c_B0, c_B1, setRow_B, rowLen_B, cat1_B, rowAt_B, set_B, sub_B, rowZ_B, c_M0, c_M1, c_M2, c_M3, c_M4, c_M5, c_M6, setRow_M, rowLen_M, cat1_M, rowAt_M, set_M, sub_M, rowZ_M, c_C0, c_C1, c_C2, c_C3, c_C4, c_C5, c_C6, c_C7, c_C8, c_C9, c_C10, c_C11, c_C12, setRow_C, rowLen_C, cat1_C, rowAt_C, set_C, sub_C, rowZ_C, c_F0, c_F1, c_F2, c_F3, setRow_F, rowLen_F, cat1_F, rowAt_F, set_F, sub_F, rowZ_F, c_W0, c_W1, c_W2, setRow_W, rowLen_W, cat1_W, rowAt_W, set_W, sub_W, rowZ_W, c_Ws0, setRow_Ws, rowLen_Ws, cat1_Ws, rowAt_Ws, set_Ws, sub_Ws, rowZ_Ws, c_Wt0, c_Wt1, c_Wt2, c_Wt3, setRow_Wt, rowLen_Wt, cat1_Wt, rowAt_Wt, set_Wt, sub_Wt, rowZ_Wt, c_St0, c_St1, setRow_St, rowLen_St, cat1_St, rowAt_St, set_St, sub_St, rowZ_St, c_T0, c_T1, setRow_T, rowLen_T, cat1_T, rowAt_T, set_T, sub_T, rowZ_T, c_E0, c_E1, c_E2, c_E3, c_E4, c_E5, setRow_E, rowLen_E, cat1_E, rowAt_E, set_E, sub_E, rowZ_E, catR_nil, catR_nilr, setRow_O0, setRow_O1, setRow_B0, setRow_B1, setRow_M0, setRow_M1, setRow_M2, setRow_M3, setRow_M4, setRow_M5, setRow_M6, setRow_C0, setRow_C1, setRow_C2, setRow_C3, setRow_C4, setRow_C5, setRow_C6, setRow_C7, setRow_C8, setRow_C9, setRow_C10, setRow_C11, setRow_C12, setRow_F0, setRow_F1, setRow_F2, setRow_F3, setRow_W0, setRow_W1, setRow_W2, setRow_Wt0, setRow_Wt1, setRow_Wt2, setRow_Wt3, setRow_St0, setRow_St1, setRow_T0, setRow_T1, setRow_E0, setRow_E1, setRow_E2, setRow_E3, setRow_E4, setRow_E5, hx]
        exact tail_acc 2 (oneI w1) 0 0 (atoiV a) [] s
      | a :: b :: r =>
        have hx := htx 2 (oneI w1) 0 0 0 [] (by simp)
        have n3 : decide (nrows ((a :: b :: r).map rS) = 1) = false := by rw [decide_eq_false_iff_not, nrows_map]; simp only [List.length_cons]; omega
        rw [n3]
        simp only [br_false', hx, bnd_some', gStr_s, sEq_bs, br_bNot]
        exact tail_acc 2 (oneI w1) 0 0 0 [] s
    · rw [if_neg (show ¬ (3 : Int) = 1 by decide), if_pos (show (3 : Int) = 2 ∨ (3 : Int) = 3 ∨ (3 : Int) = 6 by decide)]
      have d1 : decide ((3 : Int) = 1) = false := rfl
      have d2 : decide ((3 : Int) = 2) = false := rfl
      have d3 : decide ((3 : Int) = 3) = true := rfl
      have d6 : decide ((3 : Int) = 6) = false := rfl
      have d5 : decide ((3 : Int) = 5) = false := rfl
      have d4 : decide ((3 : Int) = 4) = false := rfl
      simp only [d1, d2, d3, d4, d5, d6, br_true', br_false']
      match rest with
      | [] =>
        have hx := htx 3 (oneI w1) 0 0 0 [] (by simp)
        simp only [List.map_nil, nrows_nil, n01, br_false', hx, bnd_some', gStr_s, sEq_bs, br_bNot]
        exact tail_acc 3 (oneI w1) 0 0 0 [] s
      | [a] =>
        have ha := hat a (zr a (by simp))
        have hx := htx 3 (oneI w1) 0 0 (atoiV a) [] (by simp)
        simp only [List.map_cons, List.map_nil, nrows_one, n11, br_true', rz0, ha, bnd_some', bnd_none', br_true', br_false', gBool_b, gInt_i, gStr_s, gSl_r, gOwn_r, gRows_r, gMap_r, cellAt_zero, cellAt_succ, hdO_c, tlO_c, bNot_t, bNot_f, bNot_dec, bNot_bNot, br_bNot, len_rS, len_rI, len_rU, len_rO, len_rB, len_rM, len_rC, len_rF, len_rW, len_rWs, len_rWt, len_rSt, len_rT, len_rE, beq_self_eq_true, iEq_dec, iLt_dec, iLe_dec, bAnd_dec, bAnd_t, bAnd_f, bAnd_r, sLen_bs, sCat_bs, sEq_bs, sSub_ok, nrows_map, nrows_nil, nrows_one, nrows_cons, catR_map, catR_snoc, rowsStr_one, gTupN_if, gAggN_if, gCellsN_if, decide_true, decide_false, decide_eq_true_eq, if_true, if_false, ite_true, ite_false, true_and, and_true, false_and, and_false, not_true_eq_false, not_false_eq_true, Bool.false_eq_true, Bool.true_eq_false, reduceCtorEq, List.length_cons, List.length_nil, Int.reduceLE, Int.reduceLT, Int.reduceEq, Int.reduceNeg, Nat.reduceAdd, Int.toNat_natCast, okR_S, okR_I, okR_U, okR_O, okR_B, okR_M, okR_C, okR_F, okR_W, okR_Ws, okR_Wt, okR_St, okR_T, okR_E, okR_cons, okR_nil, Bool.and_self, iEq_self, ↓dec_selfI, ↓dec_selfS, c_S0, setRow_S, rowLen_S, cat1_S, rowAt_S, set_S, sub_S, rowZ_S, c_I0, setRow_I, rowLen_I, cat1_I, rowAt_I, set_I, sub_I, rowZ_I, c_U0, setRow_U, rowLen_U, cat1_U, rowAt_U, set_U, sub_U, rowZ_U, c_O0, c_O1, setRow_O, rowLen_O, cat1_O, rowAt_O, set_O, sub_O, rowZ_O, c_B0, c_B1, setRow_B, rowLen_B, cat1_B, rowAt_B, set_B, sub_B, rowZ_B, c_M0, c_M1, c_M2, c_M3, c_M4, c_M5, c_M6, setRow_M, rowLen_M, cat1_M, rowAt_M, set_M, sub_M, rowZ_M, c_C0, c_C1, c_C2, c_C3, c_C4, c_C5, c_C6, c_C7, c_C8, c_C9, c_C10, c_C11, c_C12, setRow_C, rowLen_C, cat1_C, rowAt_C, set_C, sub_C, rowZ_C, c_F0, c_F1, c_F2, c_F3, setRow_F, rowLen_F, cat1_F, rowAt_F, set_F, sub_F, rowZ_F, c_W0, c_W1, c_W2, setRow_W, rowLen_W, cat1_W, rowAt_W, set_W, sub_W, rowZ_W, c_Ws0, setRow_Ws, rowLen_Ws, cat1_Ws, rowAt_Ws, set_Ws, sub_Ws, rowZ_Ws, c_Wt0, c_Wt1, c_Wt2, c_Wt3, setRow_Wt, rowLen_Wt, cat1_Wt, rowAt_Wt, set_Wt, sub_Wt, rowZ_Wt, c_St0, c_St1, setRow_St, rowLen_St, cat1_St, rowAt_St, set_St, sub_St, rowZ_St, c_T0, c_T1, setRow_T, rowLen_T, cat1_T, rowAt_T, set_T, sub_T, rowZ_T, c_E0, c_E1, c_E2, c_E3, c_E4, c_E5, setRow_E, rowLen_E, cat1_E, rowAt_E, set_E, sub_E, rowZ_E, catR_nil, catR_nilr, setRow_O0, setRow_O1, setRow_B0, setRow_B1, setRow_M0, setRow_M1, setRow_M2, setRow_M3, setRow_M4, setRow_M5, setRow_M6, setRow_C0, setRow_C1, setRow_C2, setRow_C3, setRow_C4, setRow_C5, setRow_C6, setRow_C7, setRow_C8, setRow_C9, setRow_C10, setRow_C11, setRow_C12, setRow_F0, setRow_F1, setRow_F2, setRow_F3, setRow_W0, setRow_W1, setRow_W2, setRow_Wt0, setRow_Wt1, setRow_Wt2, setRow_Wt3, setRow_St0, setRow_St1, setRow_T0, setRow_T1, setRow_E0, setRow_E1, setRow_E2, setRow_E3, setRow_E4, setRow_E5, hx]
        exact tail_acc 3 (oneI w1) 0 0 (atoiV a) [] s
      | a :: b :: r =>
        have hx := htx 3 (oneI w1) 0 0 0 [] (by simp)
        have n3 : decide (nrows ((a :: b :: r).map rS) = 1) = false := by rw [decide_eq_false_iff_not, nrows_map]; simp only [List.length_cons]; omega
        rw [n3]
        simp only [br_false', hx, bnd_some', gStr_s, sEq_bs, br_bNot]
        exact tail_acc 3 (oneI w1) 0 0 0 [] s
    · rw [if_neg (show ¬ (4 : Int) = 1 by decide), if_neg (show ¬ ((4 : Int) = 2 ∨ (4 : Int) = 3 ∨ (4 : Int) = 6) by decide), if_neg (show ¬ (4 : Int) = 5 by decide)]
      have d1 : decide ((4 : Int) = 1) = false := rfl
      have d2 : decide ((4 : Int) = 2) = false := rfl
      have d3 : decide ((4 : Int) = 3) = false := rfl
      have d6 : decide ((4 : Int) = 6) = false := rfl
      have d5 : decide ((4 : Int) = 5) = false := rfl
      have d4 : decide ((4 : Int) = 4) = true := rfl
      have hx := htx 4 (oneI w1) 0 0 0 [] (by simp)
      simp only [d1, d2, d3, d4, d5, d6, br_true', br_false', hx, bnd_some', gStr_s, sEq_bs, br_bNot]
      exact tail_acc 4 (oneI w1) 0 0 0 [] s
    · rw [if_neg (show ¬ (5 : Int) = 1 by decide), if_neg (show ¬ ((5 : Int) = 2 ∨ (5 : Int) = 3 ∨ (5 : Int) = 6) by decide), if_pos (show (5 : Int) = 5 from rfl)]
      have d1 : decide ((5 : Int) = 1) = false := rfl
      have d2 : decide ((5 : Int) = 2) = false := rfl
      have d3 : decide ((5 : Int) = 3) = false := rfl
      have d6 : decide ((5 : Int) = 6) = false := rfl
      have d5 : decide ((5 : Int) = 5) = true := rfl
      have d4 : decide ((5 : Int) = 4) = false := rfl
      simp only [d1, d2, d3, d4, d5, d6, br_true', br_false']
      match rest with
      | [] =>
        have hx := htx 5 (oneI w1) 0 0 0 [] (by simp)
        simp only [List.map_nil, nrows_nil, n01, br_false', hx, bnd_some', gStr_s, sEq_bs, br_bNot]
        exact tail_acc 5 (oneI w1) 0 0 0 [] s
      | [a] =>
        have hx := htx 5 (oneI w1) 0 0 0 a (zr a (by simp))
        simp only [List.map_cons, List.map_nil, nrows_one, n11, br_true', rz0, bnd_some', bnd_none', br_true', br_false', gBool_b, gInt_i, gStr_s, gSl_r, gOwn_r, gRows_r, gMap_r, cellAt_zero, cellAt_succ, hdO_c, tlO_c, bNot_t, bNot_f, bNot_dec, bNot_bNot, br_bNot, len_rS, len_rI, len_rU, len_rO, len_rB, len_rM, len_rC, len_rF, len_rW, len_rWs, len_rWt, len_rSt, len_rT, len_rE, beq_self_eq_true, iEq_dec, iLt_dec, iLe_dec, bAnd_dec, bAnd_t, bAnd_f, bAnd_r, sLen_bs, sCat_bs, sEq_bs, sSub_ok, nrows_map, nrows_nil, nrows_one, nrows_cons, catR_map, catR_snoc, rowsStr_one, gTupN_if, gAggN_if, gCellsN_if, decide_true, decide_false, decide_eq_true_eq, if_true, if_false, ite_true, ite_false, true_and, and_true, false_and, and_false, not_true_eq_false, not_false_eq_true, Bool.false_eq_true, Bool.true_eq_false, reduceCtorEq, List.length_cons, List.length_nil, Int.reduceLE, Int.reduceLT, Int.reduceEq, Int.reduceNeg, Nat.reduceAdd, Int.toNat_natCast, okR_S, okR_I, okR_U, okR_O, okR_B, okR_M, okR_C, okR_F, okR_W, okR_Ws, okR_Wt, okR_St, okR_T, okR_E, okR_cons, okR_nil, Bool.and_self, iEq_self, ↓dec_selfI, ↓dec_selfS, c_S0, setRow_S, rowLen_S, cat1_S, rowAt_S, set_S, sub_S, rowZ_S, c_I0, setRow_I, rowLen_I, cat1_I, rowAt_I, set_I, sub_I, rowZ_I, c_U0, setRow_U, rowLen_U, cat1_U, rowAt_U, set_U, sub_U, rowZ_U, c_O0, c_O1, setRow_O, rowLen_O, cat1_O, rowAt_O, set_O, sub_O, rowZ_O, c_B0, c_B1, setRow_B, rowLen_B, cat1_B, rowAt_B, set_B, sub_B, rowZ_B, c_M0, c_M1, c_M2, c_M3, c_M4, c_M5, c_M6, setRow_M, rowLen_M, cat1_M, rowAt_M, set_M, sub_M, rowZ_M, c_C0, c_C1, c_C2, c_C3, c_C4, c_C5, c_C6, c_C7, c_C8, c_C9, c_C10, c_C11, c_C12, setRow_C, rowLen_C, cat1_C, rowAt_C, set_C, sub_C, rowZ_C, c_F0, c_F1, c_F2, c_F3, setRow_F, rowLen_F, cat1_F, rowAt_F, set_F, sub_F, rowZ_F, c_W0, c_W1, c_W2, setRow_W, rowLen_W, cat1_W, rowAt_W, set_W, sub_W, rowZ_W, c_Ws0, setRow_Ws, rowLen_Ws, cat1_Ws, rowAt_Ws, set_Ws, sub_Ws, rowZ_Ws, c_Wt0, c_Wt1, c_Wt2, c_Wt3, setRow_Wt, rowLen_Wt, cat1_Wt, rowAt_Wt, set_Wt, sub_Wt, rowZ_Wt, c_St0, c_St1, setRow_St, rowLen_St, cat1_St, rowAt_St, set_St, sub_St, rowZ_St, c_T0, c_T1, setRow_T, rowLen_T, cat1_T, rowAt_T, set_T, sub_T, rowZ_T, c_E0, c_E1, c_E2, c_E3, c_E4, c_E5, setRow_E, rowLen_E, cat1_E, rowAt_E, set_E, sub_E, rowZ_E, catR_nil, catR_nilr, setRow_O0, setRow_O1, setRow_B0, setRow_B1, setRow_M0, setRow_M1, setRow_M2, setRow_M3, setRow_M4, setRow_M5, setRow_M6, setRow_C0, setRow_C1, setRow_C2, setRow_C3, setRow_C4, setRow_C5, setRow_C6, setRow_C7, setRow_C8, setRow_C9, setRow_C10, setRow_C11, setRow_C12, setRow_F0, setRow_F1, setRow_F2, setRow_F3, setRow_W0, setRow_W1, setRow_W2, setRow_Wt0, setRow_Wt1, setRow_Wt2, setRow_Wt3, setRow_St0, setRow_St1, setRow_T0, setRow_T1, setRow_E0, setRow_E1, setRow_E2, setRow_E3, setRow_E4, setRow_E5, hx]
        exact tail_acc 5 (oneI w1) 0 0 0 a s
      | a :: b :: r =>
        have hx := htx 5 (oneI w1) 0 0 0 [] (by simp)
        have n3 : decide (nrows ((a :: b :: r).map rS) = 1) = false := by rw [decide_eq_false_iff_not, nrows_map]; simp only [List.length_cons]; omega
        rw [n3]
        simp only [br_false', hx, bnd_some', gStr_s, sEq_bs, br_bNot]
        exact tail_acc 5 (oneI w1) 0 0 0 [] s
    · rw [if_neg (show ¬ (6 : Int) = 1 by decide), if_pos (show (6 : Int) = 2 ∨ (6 : Int) = 3 ∨ (6 : Int) = 6 by decide)]
      have d1 : decide ((6 : Int) = 1) = false := rfl
      have d2 : decide ((6 : Int) = 2) = false := rfl
      have d3 : decide ((6 : Int) = 3) = false := rfl
      have d6 : decide ((6 : Int) = 6) = true := rfl
      have d5 : decide ((6 : Int) = 5) = false := rfl
      have d4 : decide ((6 : Int) = 4) = false := rfl
      simp only [d1, d2, d3, d4, d5, d6, br_true', br_false']
      match rest with
      | [] =>
        have hx := htx 6 (oneI w1) 0 0 0 [] (by simp)
        simp only [List.map_nil, nrows_nil, n01, br_false', hx, bnd_some', gStr_s, sEq_bs, br_bNot]
        exact tail_acc 6 (oneI w1) 0 0 0 [] s
      | [a] =>
        have ha := hat a (zr a (by simp))
        have hx := htx 6 (oneI w1) 0 0 (atoiV a) [] (by simp)
        simp only [List.map_cons, List.map_nil, nrows_one, n11, br_true', rz0, ha, bnd_some', bnd_none', br_true', br_false', gBool_b, gInt_i, gStr_s, gSl_r, gOwn_r, gRows_r, gMap_r, cellAt_zero, cellAt_succ, hdO_c, tlO_c, bNot_t, bNot_f, bNot_dec, bNot_bNot, br_bNot, len_rS, len_rI, len_rU, len_rO, len_rB, len_rM, len_rC, len_rF, len_rW, len_rWs, len_rWt, len_rSt, len_rT, len_rE, beq_self_eq_true, iEq_dec, iLt_dec, iLe_dec, bAnd_dec, bAnd_t, bAnd_f, bAnd_r, sLen_bs, sCat_bs, sEq_bs, sSub_ok, nrows_map, nrows_nil, nrows_one, nrows_cons, catR_map, catR_snoc, rowsStr_one, gTupN_if, gAggN_if, gCellsN_if, decide_true, decide_false, decide_eq_true_eq, if_true, if_false, ite_true, ite_false, true_and, and_true, false_and, and_false, not_true_eq_false, not_false_eq_true, Bool.false_eq_true, Bool.true_eq_false, reduceCtorEq, List.length_cons, List.length_nil, Int.reduceLE, Int.reduceLT, Int.reduceEq, Int.reduceNeg, Nat.reduceAdd, Int.toNat_natCast, okR_S, okR_I, okR_U, okR_O, okR_B, okR_M, okR_C, okR_F, okR_W, okR_Ws, okR_Wt, okR_St, okR_T, okR_E, okR_cons, okR_nil, Bool.and_self, iEq_self, ↓dec_selfI, ↓dec_selfS, c_S0, setRow_S, rowLen_S, cat1_S, rowAt_S, set_S, sub_S, rowZ_S, c_I0, setRow_I, rowLen_I, cat1_I, rowAt_I, set_I, sub_I, rowZ_I, c_U0, setRow_U, rowLen_U, cat1_U, rowAt_U, set_U, sub_U, rowZ_U, c_O0, c_O1, setRow_O, rowLen_O, cat1_O, rowAt_O, set_O, sub_O, rowZ_O, c_B0, c_B1, setRow_B, rowLen_B, cat1_B, rowAt_B, set_B, sub_B, rowZ_B, c_M0, c_M1, c_M2, c_M3, c_M4, c_M5, c_M6, setRow_M, rowLen_M, cat1_M, rowAt_M, set_M, sub_M, rowZ_M, c_C0, c_C1, c_C2, c_C3, c_C4, c_C5, c_C6, c_C7, c_C8, c_C9, c_C10, c_C11, c_C12, setRow_C, rowLen_C, cat1_C, rowAt_C, set_C, sub_C, rowZ_C, c_F0, c_F1, c_F2, c_F3, setRow_F, rowLen_F, cat1_F, rowAt_F, set_F, sub_F, rowZ_F, c_W0, c_W1, c_W2, setRow_W, rowLen_W, cat1_W, rowAt_W, set_W, sub_W, rowZ_W, c_Ws0, setRow_Ws, rowLen_Ws, cat1_Ws, rowAt_Ws, set_Ws, sub_Ws, rowZ_Ws, c_Wt0, c_Wt1, c_Wt2, c_Wt3, setRow_Wt, rowLen_Wt, cat1_Wt, rowAt_Wt, set_Wt, sub_Wt, rowZ_Wt, c_St0, c_St1, setRow_St, rowLen_St, cat1_St, rowAt_St, set_St, sub_St, rowZ_St, c_T0, c_T1, setRow_T, rowLen_T, cat1_T, rowAt_T, set_T, sub_T, rowZ_T, c_E0, c_E1, c_E2, c_E3, c_E4, c_E5, setRow_E, rowLen_E, cat1_E, rowAt_E, set_E, sub_E, rowZ_E, catR_nil, catR_nilr, setRow_O0, setRow_O1, setRow_B0, setRow_B1, setRow_M0, setRow_M1, setRow_M2, setRow_M3, setRow_M4, setRow_M5, setRow_M6, setRow_C0, setRow_C1, setRow_C2, setRow_C3, setRow_C4, setRow_C5, setRow_C6, setRow_C7, setRow_C8, setRow_C9, setRow_C10, setRow_C11, setRow_C12, setRow_F0, setRow_F1, setRow_F2, setRow_F3, setRow_W0, setRow_W1, setRow_W2, setRow_Wt0, setRow_Wt1, setRow_Wt2, setRow_Wt3, setRow_St0, setRow_St1, setRow_T0, setRow_T1, setRow_E0, setRow_E1, setRow_E2, setRow_E3, setRow_E4, setRow_E5, hx]
        exact tail_acc 6 (oneI w1) 0 0 (atoiV a) [] s
      | a :: b :: r =>
        have hx := htx 6 (oneI w1) 0 0 0 [] (by simp)
        have n3 : decide (nrows ((a :: b :: r).map rS) = 1) = false := by rw [decide_eq_false_iff_not, nrows_map]; simp only [List.length_cons]; omega
        rw [n3]
        simp only [br_false', hx, bnd_some', gStr_s, sEq_bs, br_bNot]
        exact tail_acc 6 (oneI w1) 0 0 0 [] s
end
end Kw
namespace Kw
set_option linter.unusedVariables false
set_option linter.unusedSimpArgs false
set_option linter.unusedSectionVars false
open Go Go.Proofs
set_option maxRecDepth 100000
theorem t_ke : ev E bigL 61 13 [] [] = some (.bool true, []) := by kernel_rfl
theorem t_new0 : ev E bigL 60 20 [.int .i64 0] [] =
    some (.agg [.own ((grpNew 0).seats.map rM), .own ((grpNew 0).waits.map rWt), .own ((grpNew 0).log.map rC), .own ((grpNew 0).fresh.map rI), .own ((grpNew 0).spy.map rS), .own ((grpNew 0).stolen.map rSt), .own ((grpNew 0).frames.map rF), .own ((grpNew 0).said.map rI), .own ((grpNew 0).wins.map rWs), .own ((grpNew 0).told.map rT)], []) := by kernel_rfl
theorem wj0 : WJ (grpNew 0) := ⟨by decide, by decide⟩
end Kw
namespace Kw
set_option linter.unusedVariables false
set_option linter.unusedSimpArgs false
set_option linter.unusedSectionVars false
open Go Go.Proofs
/-- a text, the reader further on -/
def Gs (l : S) (x : Option (MV × List Obj)) : Prop := ∃ (t : S) (n : Int), t.length ≤ 701 ∧ x = some (.str (bs t), [.cells [.sl (l.map rU), .int .i64 n]])
theorem gs_br {l : S} {c : Bool} {a b : Option (MV × List Obj)} (ha : Gs l a) (hb : Gs l b) : Gs l (br c a b) := by cases c; exact hb; exact ha
def T10 (x : Int) : List Int := [32, 48, 49, 57, 59, 110, 101, 65, 73, x]
theorem tab10 (x : Int) (l : S) (n : Int) : rowZ 1 [[.int .i64 32], [.int .i64 48], [.int .i64 49], [.int .i64 57], [.int .i64 59], [.int .i64 110], [.int .i64 101], [.int .i64 65], [.int .i64 73], [.int .i64 x]] (pick l n 10) = some (rI (ix (T10 x) (pick l n 10))) := by
  have := @pick_rng l n 10 (by omega)
  exact rowZ_I _ (T10 x) this.1 this.2
theorem tab10a (x : Int) (l : S) (n : Int) : rowAt [[.int .i64 32], [.int .i64 48], [.int .i64 49], [.int .i64 57], [.int .i64 59], [.int .i64 110], [.int .i64 101], [.int .i64 65], [.int .i64 73], [.int .i64 x]] (pick l n 10) = some (rI (ix (T10 x) (pick l n 10))) := by
  have := @pick_rng l n 10 (by omega)
  exact rowAt_I (T10 x) _ this.1 this.2
def T12 : List S := [[], [99, 111, 109, 109, 105, 116], [99, 111, 109, 109, 105, 116, 32, 73], [99, 111, 109, 109, 105, 116, 32, 65, 32, 97, 100, 100], [99, 111, 109, 109, 105, 116, 32, 65, 32, 114, 101, 109, 111, 118, 101, 32, 66, 32, 97, 100, 100, 32, 67], [99, 111, 109, 109, 105, 116, 32, 65, 32, 97, 100, 100, 32, 66, 32, 97, 100, 100, 32, 67], [104, 101, 97, 114, 32, 65], [104, 101, 97, 114, 32, 65, 32, 48, 49], [115, 97, 121, 32, 65], [115, 97, 121, 32, 65, 32, 66], [115, 116, 101, 97, 108, 32, 65, 32, 49], [103, 101, 116, 32, 65, 32, 49, 48, 48]]
theorem tab12 (l : S) (n : Int) : rowZ 1 [[MV.str (bs [])], [MV.str (bs [99, 111, 109, 109, 105, 116])], [MV.str (bs [99, 111, 109, 109, 105, 116, 32, 73])], [MV.str (bs [99, 111, 109, 109, 105, 116, 32, 65, 32, 97, 100, 100])], [MV.str (bs [99, 111, 109, 109, 105, 116, 32, 65, 32, 114, 101, 109, 111, 118, 101, 32, 66, 32, 97, 100, 100, 32, 67])], [MV.str (bs [99, 111, 109, 109, 105, 116, 32, 65, 32, 97, 100, 100, 32, 66, 32, 97, 100, 100, 32, 67])], [MV.str (bs [104, 101, 97, 114, 32, 65])], [MV.str (bs [104, 101, 97, 114, 32, 65, 32, 48, 49])], [MV.str (bs [115, 97, 121, 32, 65])], [MV.str (bs [115, 97, 121, 32, 65, 32, 66])], [MV.str (bs [115, 116, 101, 97, 108, 32, 65, 32, 49])], [MV.str (bs [103, 101, 116, 32, 65, 32, 49, 48, 48])]] (pick l n 12) = some (rS (ix T12 (pick l n 12))) := by
  have := @pick_rng l n 12 (by omega)
  exact rowZ_S _ T12 this.1 this.2
theorem tab12a (l : S) (n : Int) : rowAt [[MV.str (bs [])], [MV.str (bs [99, 111, 109, 109, 105, 116])], [MV.str (bs [99, 111, 109, 109, 105, 116, 32, 73])], [MV.str (bs [99, 111, 109, 109, 105, 116, 32, 65, 32, 97, 100, 100])], [MV.str (bs [99, 111, 109, 109, 105, 116, 32, 65, 32, 114, 101, 109, 111, 118, 101, 32, 66, 32, 97, 100, 100, 32, 67])], [MV.str (bs [99, 111, 109, 109, 105, 116, 32, 65, 32, 97, 100, 100, 32, 66, 32, 97, 100, 100, 32, 67])], [MV.str (bs [104, 101, 97, 114, 32, 65])], [MV.str (bs [104, 101, 97, 114, 32, 65, 32, 48, 49])], [MV.str (bs [115, 97, 121, 32, 65])], [MV.str (bs [115, 97, 121, 32, 65, 32, 66])], [MV.str (bs [115, 116, 101, 97, 108, 32, 65, 32, 49])], [MV.str (bs [103, 101, 116, 32, 65, 32, 49, 48, 48])]] (pick l n 12) = some (rS (ix T12 (pick l n 12))) := by
  have := @pick_rng l n 12 (by omega)
  exact rowAt_S T12 _ this.1 this.2
theorem t12_len (k : Int) : (ix T12 k).length ≤ 30 := by
  have h : ∀ s ∈ T12, s.length ≤ 30 := by decide
  unfold ix
  rw [List.getD_eq_getElem?_getD]
  cases e : T12[k.toNat]? with
  | none => exact Nat.zero_le _
  | some s => exact h s (List.mem_of_getElem? e)
theorem txt_len (e : Event) : (txt e).length ≤ 40 := by
  unfold txt
  have h1 := num2_len e.pos
  split
  · simp
  · split
    · split <;> split <;> simp [wCommit, ltr_len, wAdd, wRemove]
    · split
      · simp [wSteal, ltr_len]
      · split
        · split
          · rename_i h
            have := frT_len h
            simp [wSay, ltr_len]; omega
          · simp
        · split
          · split
            · split
              · simp [wHear, ltr_len]; omega
              · split
                · simp [wJoin, ltr_len]; omega
                · simp [wGet, ltr_len]; omega
            · simp
          · simp
section
variable (L D : Nat)
theorem t_Open (l : S) : ev E L (D + 1) 17 [.sl (l.map rU)] [] = some (.ptr (.imp 0) 0, [.cells [.sl ((l.take 2000).map rU), .int .i64 0]]) := by
  rw [eq_17]
  by_cases h : 2000 < l.length
  · have h' : decide ((2000 : Int) < l.length) = true := by rw [decide_eq_true_eq]; omega
    have h2 : decide ((2000 : Int) ≤ l.length) = true := by rw [decide_eq_true_eq]; omega
    simp (disch := omega) only [bnd_some', bnd_none', br_true', br_false', gBool_b, gInt_i, gStr_s, gSl_r, gOwn_r, gRows_r, gMap_r, cellAt_zero, cellAt_succ, hdO_c, tlO_c, bNot_t, bNot_f, bNot_dec, bNot_bNot, br_bNot, len_rS, len_rI, len_rU, len_rO, len_rB, len_rM, len_rC, len_rF, len_rW, len_rWs, len_rWt, len_rSt, len_rT, len_rE, beq_self_eq_true, iEq_dec, iLt_dec, iLe_dec, bAnd_dec, bAnd_t, bAnd_f, bAnd_r, sLen_bs, sCat_bs, sEq_bs, sSub_ok, nrows_map, nrows_nil, nrows_one, nrows_cons, catR_map, catR_snoc, rowsStr_one, gTupN_if, gAggN_if, gCellsN_if, decide_true, decide_false, decide_eq_true_eq, if_true, if_false, ite_true, ite_false, true_and, and_true, false_and, and_false, not_true_eq_false, not_false_eq_true, Bool.false_eq_true, Bool.true_eq_false, reduceCtorEq, List.length_cons, List.length_nil, Int.reduceLE, Int.reduceLT, Int.reduceEq, Int.reduceNeg, Nat.reduceAdd, Int.toNat_natCast, okR_S, okR_I, okR_U, okR_O, okR_B, okR_M, okR_C, okR_F, okR_W, okR_Ws, okR_Wt, okR_St, okR_T, okR_E, okR_cons, okR_nil, Bool.and_self, iEq_self, ↓dec_selfI, ↓dec_selfS, c_S0, setRow_S, rowLen_S, cat1_S, rowAt_S, set_S, sub_S, rowZ_S, c_I0, setRow_I, rowLen_I, cat1_I, rowAt_I, set_I, sub_I, rowZ_I, c_U0, setRow_U, rowLen_U, cat1_U, rowAt_U, set_U, sub_U, rowZ_U, c_O0, c_O1, setRow_O, rowLen_O, cat1_O, rowAt_O, set_O, sub_O, rowZ_O, c_B0, c_B1, setRow_B, rowLen_B, cat1_B, rowAt_B, set_B, sub_B, rowZ_B, c_M0, c_M1, c_M2, c_M3, c_M4, c_M5, c_M6, setRow_M, rowLen_M, cat1_M, rowAt_M, set_M, sub_M, rowZ_M, c_C0, c_C1, c_C2, c_C3, c_C4, c_C5, c_C6, c_C7, c_C8, c_C9, c_C10, c_C11, c_C12, setRow_C, rowLen_C, cat1_C, rowAt_C, set_C, sub_C, rowZ_C, c_F0, c_F1, c_F2, c_F3, setRow_F, rowLen_F, cat1_F, rowAt_F, set_F, sub_F, rowZ_F, c_W0, c_W1, c_W2, setRow_W, rowLen_W, cat1_W, rowAt_W, set_W, sub_W, rowZ_W, c_Ws0, setRow_Ws, rowLen_Ws, cat1_Ws, rowAt_Ws, set_Ws, sub_Ws, rowZ_Ws, c_Wt0, c_Wt1, c_Wt2, c_Wt3, setRow_Wt, rowLen_Wt, cat1_Wt, rowAt_Wt, set_Wt, sub_Wt, rowZ_Wt, c_St0, c_St1, setRow_St, rowLen_St, cat1_St, rowAt_St, set_St, sub_St, rowZ_St, c_T0, c_T1, setRow_T, rowLen_T, cat1_T, rowAt_T, set_T, sub_T, rowZ_T, c_E0, c_E1, c_E2, c_E3, c_E4, c_E5, setRow_E, rowLen_E, cat1_E, rowAt_E, set_E, sub_E, rowZ_E, catR_nil, catR_nilr, setRow_O0, setRow_O1, setRow_B0, setRow_B1, setRow_M0, setRow_M1, setRow_M2, setRow_M3, setRow_M4, setRow_M5, setRow_M6, setRow_C0, setRow_C1, setRow_C2, setRow_C3, setRow_C4, setRow_C5, setRow_C6, setRow_C7, setRow_C8, setRow_C9, setRow_C10, setRow_C11, setRow_C12, setRow_F0, setRow_F1, setRow_F2, setRow_F3, setRow_W0, setRow_W1, setRow_W2, setRow_Wt0, setRow_Wt1, setRow_Wt2, setRow_Wt3, setRow_St0, setRow_St1, setRow_T0, setRow_T1, setRow_E0, setRow_E1, setRow_E2, setRow_E3, setRow_E4, setRow_E5, h', h2]
    rfl
  · have h' : decide ((2000 : Int) < l.length) = false := by rw [decide_eq_false_iff_not]; omega
    simp (disch := omega) only [bnd_some', bnd_none', br_true', br_false', gBool_b, gInt_i, gStr_s, gSl_r, gOwn_r, gRows_r, gMap_r, cellAt_zero, cellAt_succ, hdO_c, tlO_c, bNot_t, bNot_f, bNot_dec, bNot_bNot, br_bNot, len_rS, len_rI, len_rU, len_rO, len_rB, len_rM, len_rC, len_rF, len_rW, len_rWs, len_rWt, len_rSt, len_rT, len_rE, beq_self_eq_true, iEq_dec, iLt_dec, iLe_dec, bAnd_dec, bAnd_t, bAnd_f, bAnd_r, sLen_bs, sCat_bs, sEq_bs, sSub_ok, nrows_map, nrows_nil, nrows_one, nrows_cons, catR_map, catR_snoc, rowsStr_one, gTupN_if, gAggN_if, gCellsN_if, decide_true, decide_false, decide_eq_true_eq, if_true, if_false, ite_true, ite_false, true_and, and_true, false_and, and_false, not_true_eq_false, not_false_eq_true, Bool.false_eq_true, Bool.true_eq_false, reduceCtorEq, List.length_cons, List.length_nil, Int.reduceLE, Int.reduceLT, Int.reduceEq, Int.reduceNeg, Nat.reduceAdd, Int.toNat_natCast, okR_S, okR_I, okR_U, okR_O, okR_B, okR_M, okR_C, okR_F, okR_W, okR_Ws, okR_Wt, okR_St, okR_T, okR_E, okR_cons, okR_nil, Bool.and_self, iEq_self, ↓dec_selfI, ↓dec_selfS, c_S0, setRow_S, rowLen_S, cat1_S, rowAt_S, set_S, sub_S, rowZ_S, c_I0, setRow_I, rowLen_I, cat1_I, rowAt_I, set_I, sub_I, rowZ_I, c_U0, setRow_U, rowLen_U, cat1_U, rowAt_U, set_U, sub_U, rowZ_U, c_O0, c_O1, setRow_O, rowLen_O, cat1_O, rowAt_O, set_O, sub_O, rowZ_O, c_B0, c_B1, setRow_B, rowLen_B, cat1_B, rowAt_B, set_B, sub_B, rowZ_B, c_M0, c_M1, c_M2, c_M3, c_M4, c_M5, c_M6, setRow_M, rowLen_M, cat1_M, rowAt_M, set_M, sub_M, rowZ_M, c_C0, c_C1, c_C2, c_C3, c_C4, c_C5, c_C6, c_C7, c_C8, c_C9, c_C10, c_C11, c_C12, setRow_C, rowLen_C, cat1_C, rowAt_C, set_C, sub_C, rowZ_C, c_F0, c_F1, c_F2, c_F3, setRow_F, rowLen_F, cat1_F, rowAt_F, set_F, sub_F, rowZ_F, c_W0, c_W1, c_W2, setRow_W, rowLen_W, cat1_W, rowAt_W, set_W, sub_W, rowZ_W, c_Ws0, setRow_Ws, rowLen_Ws, cat1_Ws, rowAt_Ws, set_Ws, sub_Ws, rowZ_Ws, c_Wt0, c_Wt1, c_Wt2, c_Wt3, setRow_Wt, rowLen_Wt, cat1_Wt, rowAt_Wt, set_Wt, sub_Wt, rowZ_Wt, c_St0, c_St1, setRow_St, rowLen_St, cat1_St, rowAt_St, set_St, sub_St, rowZ_St, c_T0, c_T1, setRow_T, rowLen_T, cat1_T, rowAt_T, set_T, sub_T, rowZ_T, c_E0, c_E1, c_E2, c_E3, c_E4, c_E5, setRow_E, rowLen_E, cat1_E, rowAt_E, set_E, sub_E, rowZ_E, catR_nil, catR_nilr, setRow_O0, setRow_O1, setRow_B0, setRow_B1, setRow_M0, setRow_M1, setRow_M2, setRow_M3, setRow_M4, setRow_M5, setRow_M6, setRow_C0, setRow_C1, setRow_C2, setRow_C3, setRow_C4, setRow_C5, setRow_C6, setRow_C7, setRow_C8, setRow_C9, setRow_C10, setRow_C11, setRow_C12, setRow_F0, setRow_F1, setRow_F2, setRow_F3, setRow_W0, setRow_W1, setRow_W2, setRow_Wt0, setRow_Wt1, setRow_Wt2, setRow_Wt3, setRow_St0, setRow_St1, setRow_T0, setRow_T1, setRow_E0, setRow_E1, setRow_E2, setRow_E3, setRow_E4, setRow_E5, h']
    rw [List.take_of_length_le (by omega)]
theorem t_Bent (l : S) (hl : l.length ≤ 2000) (s : S) (hs : s.length ≤ 700) (n : Int) (hn : 0 ≤ n ∧ n ≤ 1000000) : Gs l (ev E L (D + 2) 22 [.ptr (.imp 0) 0, .str (bs s)] [.cells [.sl (l.map rU), .int .i64 n]]) := by
  have h := eq_22 L (D + 1) (l.map rU) n (bs s)
  have a1 : iAdd .i64 (s.length : Int) 1 = (s.length : Int) + 1 := iAdd_w (by omega) (by omega)
  obtain ⟨k0, k1⟩ := @pick_rng l n ((s.length : Int) + 1) (by omega)
  have hp := t_pick L D l hl
  generalize hk : pick l n ((s.length : Int) + 1) = k at k0 k1
  have e0 : decide ((0 : Int) ≤ k) = true := by rw [decide_eq_true_eq]; omega
  have e1 : decide (k ≤ (s.length : Int)) = true := by rw [decide_eq_true_eq]; omega
  have ee : ∀ x : Int, decide (x ≤ x) = true := fun x => by rw [decide_eq_true_eq]; omega
  by_cases hlt : k < s.length
  · have e2 : decide (k < (s.length : Int)) = true := by rw [decide_eq_true_eq]; omega
    have a2 : iAdd .i64 k 1 = k + 1 := iAdd_w (by omega) (by omega)
    have e3 : decide ((0 : Int) ≤ k + 1) = true := by rw [decide_eq_true_eq]; omega
    have e4 : decide (k + 1 ≤ (s.length : Int)) = true := by rw [decide_eq_true_eq]; omega
    simp (disch := omega) only [bnd_some', bnd_none', br_true', br_false', gBool_b, gInt_i, gStr_s, gSl_r, gOwn_r, gRows_r, gMap_r, cellAt_zero, cellAt_succ, hdO_c, tlO_c, bNot_t, bNot_f, bNot_dec, bNot_bNot, br_bNot, len_rS, len_rI, len_rU, len_rO, len_rB, len_rM, len_rC, len_rF, len_rW, len_rWs, len_rWt, len_rSt, len_rT, len_rE, beq_self_eq_true, iEq_dec, iLt_dec, iLe_dec, bAnd_dec, bAnd_t, bAnd_f, bAnd_r, sLen_bs, sCat_bs, sEq_bs, sSub_ok, nrows_map, nrows_nil, nrows_one, nrows_cons, catR_map, catR_snoc, rowsStr_one, gTupN_if, gAggN_if, gCellsN_if, decide_true, decide_false, decide_eq_true_eq, if_true, if_false, ite_true, ite_false, true_and, and_true, false_and, and_false, not_true_eq_false, not_false_eq_true, Bool.false_eq_true, Bool.true_eq_false, reduceCtorEq, List.length_cons, List.length_nil, Int.reduceLE, Int.reduceLT, Int.reduceEq, Int.reduceNeg, Nat.reduceAdd, Int.toNat_natCast, okR_S, okR_I, okR_U, okR_O, okR_B, okR_M, okR_C, okR_F, okR_W, okR_Ws, okR_Wt, okR_St, okR_T, okR_E, okR_cons, okR_nil, Bool.and_self, iEq_self, ↓dec_selfI, ↓dec_selfS, c_S0, setRow_S, rowLen_S, cat1_S, rowAt_S, set_S, sub_S, rowZ_S, c_I0, setRow_I, rowLen_I, cat1_I, rowAt_I, set_I, sub_I, rowZ_I, c_U0, setRow_U, rowLen_U, cat1_U, rowAt_U, set_U, sub_U, rowZ_U, c_O0, c_O1, setRow_O, rowLen_O, cat1_O, rowAt_O, set_O, sub_O, rowZ_O, c_B0, c_B1, setRow_B, rowLen_B, cat1_B, rowAt_B, set_B, sub_B, rowZ_B, c_M0, c_M1, c_M2, c_M3, c_M4, c_M5, c_M6, setRow_M, rowLen_M, cat1_M, rowAt_M, set_M, sub_M, rowZ_M, c_C0, c_C1, c_C2, c_C3, c_C4, c_C5, c_C6, c_C7, c_C8, c_C9, c_C10, c_C11, c_C12, setRow_C, rowLen_C, cat1_C, rowAt_C, set_C, sub_C, rowZ_C, c_F0, c_F1, c_F2, c_F3, setRow_F, rowLen_F, cat1_F, rowAt_F, set_F, sub_F, rowZ_F, c_W0, c_W1, c_W2, setRow_W, rowLen_W, cat1_W, rowAt_W, set_W, sub_W, rowZ_W, c_Ws0, setRow_Ws, rowLen_Ws, cat1_Ws, rowAt_Ws, set_Ws, sub_Ws, rowZ_Ws, c_Wt0, c_Wt1, c_Wt2, c_Wt3, setRow_Wt, rowLen_Wt, cat1_Wt, rowAt_Wt, set_Wt, sub_Wt, rowZ_Wt, c_St0, c_St1, setRow_St, rowLen_St, cat1_St, rowAt_St, set_St, sub_St, rowZ_St, c_T0, c_T1, setRow_T, rowLen_T, cat1_T, rowAt_T, set_T, sub_T, rowZ_T, c_E0, c_E1, c_E2, c_E3, c_E4, c_E5, setRow_E, rowLen_E, cat1_E, rowAt_E, set_E, sub_E, rowZ_E, catR_nil, catR_nilr, setRow_O0, setRow_O1, setRow_B0, setRow_B1, setRow_M0, setRow_M1, setRow_M2, setRow_M3, setRow_M4, setRow_M5, setRow_M6, setRow_C0, setRow_C1, setRow_C2, setRow_C3, setRow_C4, setRow_C5, setRow_C6, setRow_C7, setRow_C8, setRow_C9, setRow_C10, setRow_C11, setRow_C12, setRow_F0, setRow_F1, setRow_F2, setRow_F3, setRow_W0, setRow_W1, setRow_W2, setRow_Wt0, setRow_Wt1, setRow_Wt2, setRow_Wt3, setRow_St0, setRow_St1, setRow_T0, setRow_T1, setRow_E0, setRow_E1, setRow_E2, setRow_E3, setRow_E4, setRow_E5, hp, hk, a1, a2, e0, e1, e2, e3, e4, ee, tab10, tab10a, fits_true, List.length_append, List.length_take, List.length_drop, List.drop_zero] at h
    rw [h]
    repeat' (first | exact ⟨_, _, by simp only [List.length_append, List.length_take, List.length_drop, List.length_cons, List.length_nil]; omega, rfl⟩ | exact ⟨_, _, by omega, rfl⟩ | apply gs_br)
  · have e2 : decide (k < (s.length : Int)) = false := by rw [decide_eq_false_iff_not]; omega
    simp (disch := omega) only [bnd_some', bnd_none', br_true', br_false', gBool_b, gInt_i, gStr_s, gSl_r, gOwn_r, gRows_r, gMap_r, cellAt_zero, cellAt_succ, hdO_c, tlO_c, bNot_t, bNot_f, bNot_dec, bNot_bNot, br_bNot, len_rS, len_rI, len_rU, len_rO, len_rB, len_rM, len_rC, len_rF, len_rW, len_rWs, len_rWt, len_rSt, len_rT, len_rE, beq_self_eq_true, iEq_dec, iLt_dec, iLe_dec, bAnd_dec, bAnd_t, bAnd_f, bAnd_r, sLen_bs, sCat_bs, sEq_bs, sSub_ok, nrows_map, nrows_nil, nrows_one, nrows_cons, catR_map, catR_snoc, rowsStr_one, gTupN_if, gAggN_if, gCellsN_if, decide_true, decide_false, decide_eq_true_eq, if_true, if_false, ite_true, ite_false, true_and, and_true, false_and, and_false, not_true_eq_false, not_false_eq_true, Bool.false_eq_true, Bool.true_eq_false, reduceCtorEq, List.length_cons, List.length_nil, Int.reduceLE, Int.reduceLT, Int.reduceEq, Int.reduceNeg, Nat.reduceAdd, Int.toNat_natCast, okR_S, okR_I, okR_U, okR_O, okR_B, okR_M, okR_C, okR_F, okR_W, okR_Ws, okR_Wt, okR_St, okR_T, okR_E, okR_cons, okR_nil, Bool.and_self, iEq_self, ↓dec_selfI, ↓dec_selfS, c_S0, setRow_S, rowLen_S, cat1_S, rowAt_S, set_S, sub_S, rowZ_S, c_I0, setRow_I, rowLen_I, cat1_I, rowAt_I, set_I, sub_I, rowZ_I, c_U0, setRow_U, rowLen_U, cat1_U, rowAt_U, set_U, sub_U, rowZ_U, c_O0, c_O1, setRow_O, rowLen_O, cat1_O, rowAt_O, set_O, sub_O, rowZ_O, c_B0, c_B1, setRow_B, rowLen_B, cat1_B, rowAt_B, set_B, sub_B, rowZ_B, c_M0, c_M1, c_M2, c_M3, c_M4, c_M5, c_M6, setRow_M, rowLen_M, cat1_M, rowAt_M, set_M, sub_M, rowZ_M, c_C0, c_C1, c_C2, c_C3, c_C4, c_C5, c_C6, c_C7, c_C8, c_C9, c_C10, c_C11, c_C12, setRow_C, rowLen_C, cat1_C, rowAt_C, set_C, sub_C, rowZ_C, c_F0, c_F1, c_F2, c_F3, setRow_F, rowLen_F, cat1_F, rowAt_F, set_F, sub_F, rowZ_F, c_W0, c_W1, c_W2, setRow_W, rowLen_W, cat1_W, rowAt_W, set_W, sub_W, rowZ_W, c_Ws0, setRow_Ws, rowLen_Ws, cat1_Ws, rowAt_Ws, set_Ws, sub_Ws, rowZ_Ws, c_Wt0, c_Wt1, c_Wt2, c_Wt3, setRow_Wt, rowLen_Wt, cat1_Wt, rowAt_Wt, set_Wt, sub_Wt, rowZ_Wt, c_St0, c_St1, setRow_St, rowLen_St, cat1_St, rowAt_St, set_St, sub_St, rowZ_St, c_T0, c_T1, setRow_T, rowLen_T, cat1_T, rowAt_T, set_T, sub_T, rowZ_T, c_E0, c_E1, c_E2, c_E3, c_E4, c_E5, setRow_E, rowLen_E, cat1_E, rowAt_E, set_E, sub_E, rowZ_E, catR_nil, catR_nilr, setRow_O0, setRow_O1, setRow_B0, setRow_B1, setRow_M0, setRow_M1, setRow_M2, setRow_M3, setRow_M4, setRow_M5, setRow_M6, setRow_C0, setRow_C1, setRow_C2, setRow_C3, setRow_C4, setRow_C5, setRow_C6, setRow_C7, setRow_C8, setRow_C9, setRow_C10, setRow_C11, setRow_C12, setRow_F0, setRow_F1, setRow_F2, setRow_F3, setRow_W0, setRow_W1, setRow_W2, setRow_Wt0, setRow_Wt1, setRow_Wt2, setRow_Wt3, setRow_St0, setRow_St1, setRow_T0, setRow_T1, setRow_E0, setRow_E1, setRow_E2, setRow_E3, setRow_E4, setRow_E5, hp, hk, a1, e0, e1, e2, ee, tab10, tab10a, fits_true, List.length_append, List.length_take, List.length_drop, List.drop_zero] at h
    rw [h]
    repeat' (first | exact ⟨_, _, by simp only [List.length_append, List.length_take, List.length_drop, List.length_cons, List.length_nil]; omega, rfl⟩ | exact ⟨_, _, by omega, rfl⟩ | apply gs_br)
end
theorem t_Draw (l : S) : ∃ (s : S), s.length ≤ 701 ∧ ev E bigL 61 10 [.sl (l.map rU)] [] = some (.str (bs s), []) := by
  have hL : 1099511627776 ≤ bigL := Nat.le_refl _
  have hl : (l.take 2000).length ≤ 2000 := by simp; omega
  obtain ⟨e, n, hn, h⟩ := t_Event bigL 58 (l.take 2000) hl (grpNew 0) wj0 0 (by omega) hL
  have ho := t_Open bigL 59 l
  have h2 := d_txt' bigL 58 hL e.kind e.who e.add e.remove e.pos e.text
  have hp := fun n k => t_pick bigL 59 (l.take 2000) hl n k
  have hlen := txt_len e
  obtain ⟨t, n3, ht, h3⟩ := t_Bent bigL 58 (l.take 2000) hl (txt e) (by omega) (n + 1) (by omega)
  have hn0 : newP 0 (.ptr (.imp 0) 0) = some () := rfl
  have hnt : ∀ (a : Obj) (l : List Obj), nthO (a :: l) 0 = a := fun _ _ => rfl
  have hv := @pick_rng (l.take 2000) n 4 (by omega)
  rw [eq_10]
  by_cases h0 : pick (l.take 2000) n 4 = 0
  · refine ⟨t, ht, ?_⟩
    have g0 : decide (pick (l.take 2000) n 4 = 0) = true := decide_eq_true h0
    simp (disch := omega) only [bnd_some', bnd_none', br_true', br_false', gBool_b, gInt_i, gStr_s, gSl_r, gOwn_r, gRows_r, gMap_r, cellAt_zero, cellAt_succ, hdO_c, tlO_c, bNot_t, bNot_f, bNot_dec, bNot_bNot, br_bNot, len_rS, len_rI, len_rU, len_rO, len_rB, len_rM, len_rC, len_rF, len_rW, len_rWs, len_rWt, len_rSt, len_rT, len_rE, beq_self_eq_true, iEq_dec, iLt_dec, iLe_dec, bAnd_dec, bAnd_t, bAnd_f, bAnd_r, sLen_bs, sCat_bs, sEq_bs, sSub_ok, nrows_map, nrows_nil, nrows_one, nrows_cons, catR_map, catR_snoc, rowsStr_one, gTupN_if, gAggN_if, gCellsN_if, decide_true, decide_false, decide_eq_true_eq, if_true, if_false, ite_true, ite_false, true_and, and_true, false_and, and_false, not_true_eq_false, not_false_eq_true, Bool.false_eq_true, Bool.true_eq_false, reduceCtorEq, List.length_cons, List.length_nil, Int.reduceLE, Int.reduceLT, Int.reduceEq, Int.reduceNeg, Nat.reduceAdd, Int.toNat_natCast, okR_S, okR_I, okR_U, okR_O, okR_B, okR_M, okR_C, okR_F, okR_W, okR_Ws, okR_Wt, okR_St, okR_T, okR_E, okR_cons, okR_nil, Bool.and_self, iEq_self, ↓dec_selfI, ↓dec_selfS, c_S0, setRow_S, rowLen_S, cat1_S, rowAt_S, set_S, sub_S, rowZ_S, c_I0, setRow_I, rowLen_I, cat1_I, rowAt_I, set_I, sub_I, rowZ_I, c_U0, setRow_U, rowLen_U, cat1_U, rowAt_U, set_U, sub_U, rowZ_U, c_O0, c_O1, setRow_O, rowLen_O, cat1_O, rowAt_O, set_O, sub_O, rowZ_O, c_B0, c_B1, setRow_B, rowLen_B, cat1_B, rowAt_B, set_B, sub_B, rowZ_B, c_M0, c_M1, c_M2, c_M3, c_M4, c_M5, c_M6, setRow_M, rowLen_M, cat1_M, rowAt_M, set_M, sub_M, rowZ_M, c_C0, c_C1, c_C2, c_C3, c_C4, c_C5, c_C6, c_C7, c_C8, c_C9, c_C10, c_C11, c_C12, setRow_C, rowLen_C, cat1_C, rowAt_C, set_C, sub_C, rowZ_C, c_F0, c_F1, c_F2, c_F3, setRow_F, rowLen_F, cat1_F, rowAt_F, set_F, sub_F, rowZ_F, c_W0, c_W1, c_W2, setRow_W, rowLen_W, cat1_W, rowAt_W, set_W, sub_W, rowZ_W, c_Ws0, setRow_Ws, rowLen_Ws, cat1_Ws, rowAt_Ws, set_Ws, sub_Ws, rowZ_Ws, c_Wt0, c_Wt1, c_Wt2, c_Wt3, setRow_Wt, rowLen_Wt, cat1_Wt, rowAt_Wt, set_Wt, sub_Wt, rowZ_Wt, c_St0, c_St1, setRow_St, rowLen_St, cat1_St, rowAt_St, set_St, sub_St, rowZ_St, c_T0, c_T1, setRow_T, rowLen_T, cat1_T, rowAt_T, set_T, sub_T, rowZ_T, c_E0, c_E1, c_E2, c_E3, c_E4, c_E5, setRow_E, rowLen_E, cat1_E, rowAt_E, set_E, sub_E, rowZ_E, catR_nil, catR_nilr, setRow_O0, setRow_O1, setRow_B0, setRow_B1, setRow_M0, setRow_M1, setRow_M2, setRow_M3, setRow_M4, setRow_M5, setRow_M6, setRow_C0, setRow_C1, setRow_C2, setRow_C3, setRow_C4, setRow_C5, setRow_C6, setRow_C7, setRow_C8, setRow_C9, setRow_C10, setRow_C11, setRow_C12, setRow_F0, setRow_F1, setRow_F2, setRow_F3, setRow_W0, setRow_W1, setRow_W2, setRow_Wt0, setRow_Wt1, setRow_Wt2, setRow_Wt3, setRow_St0, setRow_St1, setRow_T0, setRow_T1, setRow_E0, setRow_E1, setRow_E2, setRow_E3, setRow_E4, setRow_E5, ho, hn0, hnt, t_new0, h, h2, hp, g0, h3]
  have g0 : decide (pick (l.take 2000) n 4 = 0) = false := decide_eq_false h0
  by_cases h1 : pick (l.take 2000) n 4 = 1
  · have g1 : decide (pick (l.take 2000) n 4 = 1) = true := decide_eq_true h1
    refine ⟨ix T12 (pick (l.take 2000) (n + 1) 12), by have := t12_len (pick (l.take 2000) (n + 1) 12); omega, ?_⟩
    simp (disch := omega) only [bnd_some', bnd_none', br_true', br_false', gBool_b, gInt_i, gStr_s, gSl_r, gOwn_r, gRows_r, gMap_r, cellAt_zero, cellAt_succ, hdO_c, tlO_c, bNot_t, bNot_f, bNot_dec, bNot_bNot, br_bNot, len_rS, len_rI, len_rU, len_rO, len_rB, len_rM, len_rC, len_rF, len_rW, len_rWs, len_rWt, len_rSt, len_rT, len_rE, beq_self_eq_true, iEq_dec, iLt_dec, iLe_dec, bAnd_dec, bAnd_t, bAnd_f, bAnd_r, sLen_bs, sCat_bs, sEq_bs, sSub_ok, nrows_map, nrows_nil, nrows_one, nrows_cons, catR_map, catR_snoc, rowsStr_one, gTupN_if, gAggN_if, gCellsN_if, decide_true, decide_false, decide_eq_true_eq, if_true, if_false, ite_true, ite_false, true_and, and_true, false_and, and_false, not_true_eq_false, not_false_eq_true, Bool.false_eq_true, Bool.true_eq_false, reduceCtorEq, List.length_cons, List.length_nil, Int.reduceLE, Int.reduceLT, Int.reduceEq, Int.reduceNeg, Nat.reduceAdd, Int.toNat_natCast, okR_S, okR_I, okR_U, okR_O, okR_B, okR_M, okR_C, okR_F, okR_W, okR_Ws, okR_Wt, okR_St, okR_T, okR_E, okR_cons, okR_nil, Bool.and_self, iEq_self, ↓dec_selfI, ↓dec_selfS, c_S0, setRow_S, rowLen_S, cat1_S, rowAt_S, set_S, sub_S, rowZ_S, c_I0, setRow_I, rowLen_I, cat1_I, rowAt_I, set_I, sub_I, rowZ_I, c_U0, setRow_U, rowLen_U, cat1_U, rowAt_U, set_U, sub_U, rowZ_U, c_O0, c_O1, setRow_O, rowLen_O, cat1_O, rowAt_O, set_O, sub_O, rowZ_O, c_B0, c_B1, setRow_B, rowLen_B, cat1_B, rowAt_B, set_B, sub_B, rowZ_B, c_M0, c_M1, c_M2, c_M3, c_M4, c_M5, c_M6, setRow_M, rowLen_M, cat1_M, rowAt_M, set_M, sub_M, rowZ_M, c_C0, c_C1, c_C2, c_C3, c_C4, c_C5, c_C6, c_C7, c_C8, c_C9, c_C10, c_C11, c_C12, setRow_C, rowLen_C, cat1_C, rowAt_C, set_C, sub_C, rowZ_C, c_F0, c_F1, c_F2, c_F3, setRow_F, rowLen_F, cat1_F, rowAt_F, set_F, sub_F, rowZ_F, c_W0, c_W1, c_W2, setRow_W, rowLen_W, cat1_W, rowAt_W, set_W, sub_W, rowZ_W, c_Ws0, setRow_Ws, rowLen_Ws, cat1_Ws, rowAt_Ws, set_Ws, sub_Ws, rowZ_Ws, c_Wt0, c_Wt1, c_Wt2, c_Wt3, setRow_Wt, rowLen_Wt, cat1_Wt, rowAt_Wt, set_Wt, sub_Wt, rowZ_Wt, c_St0, c_St1, setRow_St, rowLen_St, cat1_St, rowAt_St, set_St, sub_St, rowZ_St, c_T0, c_T1, setRow_T, rowLen_T, cat1_T, rowAt_T, set_T, sub_T, rowZ_T, c_E0, c_E1, c_E2, c_E3, c_E4, c_E5, setRow_E, rowLen_E, cat1_E, rowAt_E, set_E, sub_E, rowZ_E, catR_nil, catR_nilr, setRow_O0, setRow_O1, setRow_B0, setRow_B1, setRow_M0, setRow_M1, setRow_M2, setRow_M3, setRow_M4, setRow_M5, setRow_M6, setRow_C0, setRow_C1, setRow_C2, setRow_C3, setRow_C4, setRow_C5, setRow_C6, setRow_C7, setRow_C8, setRow_C9, setRow_C10, setRow_C11, setRow_C12, setRow_F0, setRow_F1, setRow_F2, setRow_F3, setRow_W0, setRow_W1, setRow_W2, setRow_Wt0, setRow_Wt1, setRow_Wt2, setRow_Wt3, setRow_St0, setRow_St1, setRow_T0, setRow_T1, setRow_E0, setRow_E1, setRow_E2, setRow_E3, setRow_E4, setRow_E5, ho, hn0, hnt, t_new0, h, h2, hp, g0, g1, tab12, tab12a]
  · have g1 : decide (pick (l.take 2000) n 4 = 1) = false := decide_eq_false h1
    refine ⟨txt e, by omega, ?_⟩
    simp (disch := omega) only [bnd_some', bnd_none', br_true', br_false', gBool_b, gInt_i, gStr_s, gSl_r, gOwn_r, gRows_r, gMap_r, cellAt_zero, cellAt_succ, hdO_c, tlO_c, bNot_t, bNot_f, bNot_dec, bNot_bNot, br_bNot, len_rS, len_rI, len_rU, len_rO, len_rB, len_rM, len_rC, len_rF, len_rW, len_rWs, len_rWt, len_rSt, len_rT, len_rE, beq_self_eq_true, iEq_dec, iLt_dec, iLe_dec, bAnd_dec, bAnd_t, bAnd_f, bAnd_r, sLen_bs, sCat_bs, sEq_bs, sSub_ok, nrows_map, nrows_nil, nrows_one, nrows_cons, catR_map, catR_snoc, rowsStr_one, gTupN_if, gAggN_if, gCellsN_if, decide_true, decide_false, decide_eq_true_eq, if_true, if_false, ite_true, ite_false, true_and, and_true, false_and, and_false, not_true_eq_false, not_false_eq_true, Bool.false_eq_true, Bool.true_eq_false, reduceCtorEq, List.length_cons, List.length_nil, Int.reduceLE, Int.reduceLT, Int.reduceEq, Int.reduceNeg, Nat.reduceAdd, Int.toNat_natCast, okR_S, okR_I, okR_U, okR_O, okR_B, okR_M, okR_C, okR_F, okR_W, okR_Ws, okR_Wt, okR_St, okR_T, okR_E, okR_cons, okR_nil, Bool.and_self, iEq_self, ↓dec_selfI, ↓dec_selfS, c_S0, setRow_S, rowLen_S, cat1_S, rowAt_S, set_S, sub_S, rowZ_S, c_I0, setRow_I, rowLen_I, cat1_I, rowAt_I, set_I, sub_I, rowZ_I, c_U0, setRow_U, rowLen_U, cat1_U, rowAt_U, set_U, sub_U, rowZ_U, c_O0, c_O1, setRow_O, rowLen_O, cat1_O, rowAt_O, set_O, sub_O, rowZ_O, c_B0, c_B1, setRow_B, rowLen_B, cat1_B, rowAt_B, set_B, sub_B, rowZ_B, c_M0, c_M1, c_M2, c_M3, c_M4, c_M5, c_M6, setRow_M, rowLen_M, cat1_M, rowAt_M, set_M, sub_M, rowZ_M, c_C0, c_C1, c_C2, c_C3, c_C4, c_C5, c_C6, c_C7, c_C8, c_C9, c_C10, c_C11, c_C12, setRow_C, rowLen_C, cat1_C, rowAt_C, set_C, sub_C, rowZ_C, c_F0, c_F1, c_F2, c_F3, setRow_F, rowLen_F, cat1_F, rowAt_F, set_F, sub_F, rowZ_F, c_W0, c_W1, c_W2, setRow_W, rowLen_W, cat1_W, rowAt_W, set_W, sub_W, rowZ_W, c_Ws0, setRow_Ws, rowLen_Ws, cat1_Ws, rowAt_Ws, set_Ws, sub_Ws, rowZ_Ws, c_Wt0, c_Wt1, c_Wt2, c_Wt3, setRow_Wt, rowLen_Wt, cat1_Wt, rowAt_Wt, set_Wt, sub_Wt, rowZ_Wt, c_St0, c_St1, setRow_St, rowLen_St, cat1_St, rowAt_St, set_St, sub_St, rowZ_St, c_T0, c_T1, setRow_T, rowLen_T, cat1_T, rowAt_T, set_T, sub_T, rowZ_T, c_E0, c_E1, c_E2, c_E3, c_E4, c_E5, setRow_E, rowLen_E, cat1_E, rowAt_E, set_E, sub_E, rowZ_E, catR_nil, catR_nilr, setRow_O0, setRow_O1, setRow_B0, setRow_B1, setRow_M0, setRow_M1, setRow_M2, setRow_M3, setRow_M4, setRow_M5, setRow_M6, setRow_C0, setRow_C1, setRow_C2, setRow_C3, setRow_C4, setRow_C5, setRow_C6, setRow_C7, setRow_C8, setRow_C9, setRow_C10, setRow_C11, setRow_C12, setRow_F0, setRow_F1, setRow_F2, setRow_F3, setRow_W0, setRow_W1, setRow_W2, setRow_Wt0, setRow_Wt1, setRow_Wt2, setRow_Wt3, setRow_St0, setRow_St1, setRow_T0, setRow_T1, setRow_E0, setRow_E1, setRow_E2, setRow_E3, setRow_E4, setRow_E5, ho, hn0, hnt, t_new0, h, h2, hp, g0, g1]
end Kw
namespace Kw
set_option linter.unusedVariables false
set_option linter.unusedSimpArgs false
set_option linter.unusedSectionVars false
open Go Go.Proofs
theorem lawD (s t : S) {e f : Event} (h : dskI s = some e) (h' : dskI t = some f) : decide (e = f) = decide (s = t) := by
  have h1 := (dskI_can h).2.1
  have h2 := (dskI_can h').2.1
  by_cases he : e = f
  · subst he
    rw [← h1, ← h2]; simp
  · rw [decide_eq_false he]
    have : ¬ s = t := fun x => by
      subst x
      rw [h] at h'
      cases h'
      exact he rfl
    rw [decide_eq_false this]
theorem kindD {s : S} {e : Event} (h : dskI s = some e) : 1 ≤ e.kind ∧ e.kind ≤ 6 := by
  obtain ⟨_, h⟩ := (dskI_can h).1
  omega
theorem t_FnDskSame (l k : S) : ev E bigL 62 4 [.sl (l.map rU), .sl (k.map rU)] [] = some (.bool true, []) := by
  have hL : 1099511627776 ≤ bigL := Nat.le_refl _
  rw [eq_4]
  by_cases hl : (1048576 : Int) < l.length
  · have g : decide ((1048576 : Int) < l.length) = true := decide_eq_true hl
    simp only [nrows_map, iLt_dec, g, bNot_t, br_false']
  have g : decide ((1048576 : Int) < l.length) = false := decide_eq_false hl
  by_cases hk : (1048576 : Int) < k.length
  · have g2 : decide ((1048576 : Int) < k.length) = true := decide_eq_true hk
    simp only [nrows_map, iLt_dec, g, g2, bNot_f, br_true']
  have g2 : decide ((1048576 : Int) < k.length) = false := decide_eq_false hk
  obtain ⟨s, hs, h1⟩ := t_Draw l
  obtain ⟨t, ht, h2⟩ := t_Draw k
  have hI := d_impl bigL 57 hL s (by omega)
  have hT := d_impl bigL 57 hL t (by omega)
  have hS := d_spec bigL 58 hL s (by omega)
  rw [← dsk_same] at hS
  simp only [nrows_map, iLt_dec, g, g2, bNot_f, br_true', br_false', h1, h2, bnd_some', gStr_s, hI, hT, hS]
  have se : ∀ a : S, sEq (bs a) (bs a) = true := fun a => by rw [sEq_bs]; simp
  cases hi : dskI s with
  | none =>
    cases dskI t with
    | none =>
      simp only [resD, zE, cE, bnd_some', bnd_none', br_true', br_false', gBool_b, gInt_i, gStr_s, gSl_r, gOwn_r, gRows_r, gMap_r, cellAt_zero, cellAt_succ, hdO_c, tlO_c, bNot_t, bNot_f, bNot_dec, bNot_bNot, br_bNot, len_rS, len_rI, len_rU, len_rO, len_rB, len_rM, len_rC, len_rF, len_rW, len_rWs, len_rWt, len_rSt, len_rT, len_rE, beq_self_eq_true, iEq_dec, iLt_dec, iLe_dec, bAnd_dec, bAnd_t, bAnd_f, bAnd_r, sLen_bs, sCat_bs, sEq_bs, sSub_ok, nrows_map, nrows_nil, nrows_one, nrows_cons, catR_map, catR_snoc, rowsStr_one, gTupN_if, gAggN_if, gCellsN_if, decide_true, decide_false, decide_eq_true_eq, if_true, if_false, ite_true, ite_false, true_and, and_true, false_and, and_false, not_true_eq_false, not_false_eq_true, Bool.false_eq_true, Bool.true_eq_false, reduceCtorEq, List.length_cons, List.length_nil, Int.reduceLE, Int.reduceLT, Int.reduceEq, Int.reduceNeg, Nat.reduceAdd, Int.toNat_natCast, okR_S, okR_I, okR_U, okR_O, okR_B, okR_M, okR_C, okR_F, okR_W, okR_Ws, okR_Wt, okR_St, okR_T, okR_E, okR_cons, okR_nil, Bool.and_self, iEq_self, ↓dec_selfI, ↓dec_selfS, c_S0, setRow_S, rowLen_S, cat1_S, rowAt_S, set_S, sub_S, rowZ_S, c_I0, setRow_I, rowLen_I, cat1_I, rowAt_I, set_I, sub_I, rowZ_I, c_U0, setRow_U, rowLen_U, cat1_U, rowAt_U, set_U, sub_U, rowZ_U, c_O0, c_O1, setRow_O, rowLen_O, cat1_O, rowAt_O, set_O, sub_O, rowZ_O, c_B0, c_B1, setRow_B, rowLen_B, cat1_B, rowAt_B, set_B, sub_B, rowZ_B, c_M0, c_M1, c_M2, c_M3, c_M4, c_M5, c_M6, setRow_M, rowLen_M, cat1_M, rowAt_M, set_M, sub_M, rowZ_M, c_C0, c_C1, c_C2, c_C3, c_C4, c_C5, c_C6, c_C7, c_C8, c_C9, c_C10, c_C11, c_C12, setRow_C, rowLen_C, cat1_C, rowAt_C, set_C, sub_C, rowZ_C, c_F0, c_F1, c_F2, c_F3, setRow_F, rowLen_F, cat1_F, rowAt_F, set_F, sub_F, rowZ_F, c_W0, c_W1, c_W2, setRow_W, rowLen_W, cat1_W, rowAt_W, set_W, sub_W, rowZ_W, c_Ws0, setRow_Ws, rowLen_Ws, cat1_Ws, rowAt_Ws, set_Ws, sub_Ws, rowZ_Ws, c_Wt0, c_Wt1, c_Wt2, c_Wt3, setRow_Wt, rowLen_Wt, cat1_Wt, rowAt_Wt, set_Wt, sub_Wt, rowZ_Wt, c_St0, c_St1, setRow_St, rowLen_St, cat1_St, rowAt_St, set_St, sub_St, rowZ_St, c_T0, c_T1, setRow_T, rowLen_T, cat1_T, rowAt_T, set_T, sub_T, rowZ_T, c_E0, c_E1, c_E2, c_E3, c_E4, c_E5, setRow_E, rowLen_E, cat1_E, rowAt_E, set_E, sub_E, rowZ_E, catR_nil, catR_nilr, setRow_O0, setRow_O1, setRow_B0, setRow_B1, setRow_M0, setRow_M1, setRow_M2, setRow_M3, setRow_M4, setRow_M5, setRow_M6, setRow_C0, setRow_C1, setRow_C2, setRow_C3, setRow_C4, setRow_C5, setRow_C6, setRow_C7, setRow_C8, setRow_C9, setRow_C10, setRow_C11, setRow_C12, setRow_F0, setRow_F1, setRow_F2, setRow_F3, setRow_W0, setRow_W1, setRow_W2, setRow_Wt0, setRow_Wt1, setRow_Wt2, setRow_Wt3, setRow_St0, setRow_St1, setRow_T0, setRow_T1, setRow_E0, setRow_E1, setRow_E2, setRow_E3, setRow_E4, setRow_E5, se, t_ke]
      rfl
    | some f =>
      simp only [resD, zE, cE, bnd_some', bnd_none', br_true', br_false', gBool_b, gInt_i, gStr_s, gSl_r, gOwn_r, gRows_r, gMap_r, cellAt_zero, cellAt_succ, hdO_c, tlO_c, bNot_t, bNot_f, bNot_dec, bNot_bNot, br_bNot, len_rS, len_rI, len_rU, len_rO, len_rB, len_rM, len_rC, len_rF, len_rW, len_rWs, len_rWt, len_rSt, len_rT, len_rE, beq_self_eq_true, iEq_dec, iLt_dec, iLe_dec, bAnd_dec, bAnd_t, bAnd_f, bAnd_r, sLen_bs, sCat_bs, sEq_bs, sSub_ok, nrows_map, nrows_nil, nrows_one, nrows_cons, catR_map, catR_snoc, rowsStr_one, gTupN_if, gAggN_if, gCellsN_if, decide_true, decide_false, decide_eq_true_eq, if_true, if_false, ite_true, ite_false, true_and, and_true, false_and, and_false, not_true_eq_false, not_false_eq_true, Bool.false_eq_true, Bool.true_eq_false, reduceCtorEq, List.length_cons, List.length_nil, Int.reduceLE, Int.reduceLT, Int.reduceEq, Int.reduceNeg, Nat.reduceAdd, Int.toNat_natCast, okR_S, okR_I, okR_U, okR_O, okR_B, okR_M, okR_C, okR_F, okR_W, okR_Ws, okR_Wt, okR_St, okR_T, okR_E, okR_cons, okR_nil, Bool.and_self, iEq_self, ↓dec_selfI, ↓dec_selfS, c_S0, setRow_S, rowLen_S, cat1_S, rowAt_S, set_S, sub_S, rowZ_S, c_I0, setRow_I, rowLen_I, cat1_I, rowAt_I, set_I, sub_I, rowZ_I, c_U0, setRow_U, rowLen_U, cat1_U, rowAt_U, set_U, sub_U, rowZ_U, c_O0, c_O1, setRow_O, rowLen_O, cat1_O, rowAt_O, set_O, sub_O, rowZ_O, c_B0, c_B1, setRow_B, rowLen_B, cat1_B, rowAt_B, set_B, sub_B, rowZ_B, c_M0, c_M1, c_M2, c_M3, c_M4, c_M5, c_M6, setRow_M, rowLen_M, cat1_M, rowAt_M, set_M, sub_M, rowZ_M, c_C0, c_C1, c_C2, c_C3, c_C4, c_C5, c_C6, c_C7, c_C8, c_C9, c_C10, c_C11, c_C12, setRow_C, rowLen_C, cat1_C, rowAt_C, set_C, sub_C, rowZ_C, c_F0, c_F1, c_F2, c_F3, setRow_F, rowLen_F, cat1_F, rowAt_F, set_F, sub_F, rowZ_F, c_W0, c_W1, c_W2, setRow_W, rowLen_W, cat1_W, rowAt_W, set_W, sub_W, rowZ_W, c_Ws0, setRow_Ws, rowLen_Ws, cat1_Ws, rowAt_Ws, set_Ws, sub_Ws, rowZ_Ws, c_Wt0, c_Wt1, c_Wt2, c_Wt3, setRow_Wt, rowLen_Wt, cat1_Wt, rowAt_Wt, set_Wt, sub_Wt, rowZ_Wt, c_St0, c_St1, setRow_St, rowLen_St, cat1_St, rowAt_St, set_St, sub_St, rowZ_St, c_T0, c_T1, setRow_T, rowLen_T, cat1_T, rowAt_T, set_T, sub_T, rowZ_T, c_E0, c_E1, c_E2, c_E3, c_E4, c_E5, setRow_E, rowLen_E, cat1_E, rowAt_E, set_E, sub_E, rowZ_E, catR_nil, catR_nilr, setRow_O0, setRow_O1, setRow_B0, setRow_B1, setRow_M0, setRow_M1, setRow_M2, setRow_M3, setRow_M4, setRow_M5, setRow_M6, setRow_C0, setRow_C1, setRow_C2, setRow_C3, setRow_C4, setRow_C5, setRow_C6, setRow_C7, setRow_C8, setRow_C9, setRow_C10, setRow_C11, setRow_C12, setRow_F0, setRow_F1, setRow_F2, setRow_F3, setRow_W0, setRow_W1, setRow_W2, setRow_Wt0, setRow_Wt1, setRow_Wt2, setRow_Wt3, setRow_St0, setRow_St1, setRow_T0, setRow_T1, setRow_E0, setRow_E1, setRow_E2, setRow_E3, setRow_E4, setRow_E5, se, t_ke]
      rfl
  | some e =>
    cases hj : dskI t with
    | none =>
      simp only [resD, zE, cE, bnd_some', bnd_none', br_true', br_false', gBool_b, gInt_i, gStr_s, gSl_r, gOwn_r, gRows_r, gMap_r, cellAt_zero, cellAt_succ, hdO_c, tlO_c, bNot_t, bNot_f, bNot_dec, bNot_bNot, br_bNot, len_rS, len_rI, len_rU, len_rO, len_rB, len_rM, len_rC, len_rF, len_rW, len_rWs, len_rWt, len_rSt, len_rT, len_rE, beq_self_eq_true, iEq_dec, iLt_dec, iLe_dec, bAnd_dec, bAnd_t, bAnd_f, bAnd_r, sLen_bs, sCat_bs, sEq_bs, sSub_ok, nrows_map, nrows_nil, nrows_one, nrows_cons, catR_map, catR_snoc, rowsStr_one, gTupN_if, gAggN_if, gCellsN_if, decide_true, decide_false, decide_eq_true_eq, if_true, if_false, ite_true, ite_false, true_and, and_true, false_and, and_false, not_true_eq_false, not_false_eq_true, Bool.false_eq_true, Bool.true_eq_false, reduceCtorEq, List.length_cons, List.length_nil, Int.reduceLE, Int.reduceLT, Int.reduceEq, Int.reduceNeg, Nat.reduceAdd, Int.toNat_natCast, okR_S, okR_I, okR_U, okR_O, okR_B, okR_M, okR_C, okR_F, okR_W, okR_Ws, okR_Wt, okR_St, okR_T, okR_E, okR_cons, okR_nil, Bool.and_self, iEq_self, ↓dec_selfI, ↓dec_selfS, c_S0, setRow_S, rowLen_S, cat1_S, rowAt_S, set_S, sub_S, rowZ_S, c_I0, setRow_I, rowLen_I, cat1_I, rowAt_I, set_I, sub_I, rowZ_I, c_U0, setRow_U, rowLen_U, cat1_U, rowAt_U, set_U, sub_U, rowZ_U, c_O0, c_O1, setRow_O, rowLen_O, cat1_O, rowAt_O, set_O, sub_O, rowZ_O, c_B0, c_B1, setRow_B, rowLen_B, cat1_B, rowAt_B, set_B, sub_B, rowZ_B, c_M0, c_M1, c_M2, c_M3, c_M4, c_M5, c_M6, setRow_M, rowLen_M, cat1_M, rowAt_M, set_M, sub_M, rowZ_M, c_C0, c_C1, c_C2, c_C3, c_C4, c_C5, c_C6, c_C7, c_C8, c_C9, c_C10, c_C11, c_C12, setRow_C, rowLen_C, cat1_C, rowAt_C, set_C, sub_C, rowZ_C, c_F0, c_F1, c_F2, c_F3, setRow_F, rowLen_F, cat1_F, rowAt_F, set_F, sub_F, rowZ_F, c_W0, c_W1, c_W2, setRow_W, rowLen_W, cat1_W, rowAt_W, set_W, sub_W, rowZ_W, c_Ws0, setRow_Ws, rowLen_Ws, cat1_Ws, rowAt_Ws, set_Ws, sub_Ws, rowZ_Ws, c_Wt0, c_Wt1, c_Wt2, c_Wt3, setRow_Wt, rowLen_Wt, cat1_Wt, rowAt_Wt, set_Wt, sub_Wt, rowZ_Wt, c_St0, c_St1, setRow_St, rowLen_St, cat1_St, rowAt_St, set_St, sub_St, rowZ_St, c_T0, c_T1, setRow_T, rowLen_T, cat1_T, rowAt_T, set_T, sub_T, rowZ_T, c_E0, c_E1, c_E2, c_E3, c_E4, c_E5, setRow_E, rowLen_E, cat1_E, rowAt_E, set_E, sub_E, rowZ_E, catR_nil, catR_nilr, setRow_O0, setRow_O1, setRow_B0, setRow_B1, setRow_M0, setRow_M1, setRow_M2, setRow_M3, setRow_M4, setRow_M5, setRow_M6, setRow_C0, setRow_C1, setRow_C2, setRow_C3, setRow_C4, setRow_C5, setRow_C6, setRow_C7, setRow_C8, setRow_C9, setRow_C10, setRow_C11, setRow_C12, setRow_F0, setRow_F1, setRow_F2, setRow_F3, setRow_W0, setRow_W1, setRow_W2, setRow_Wt0, setRow_Wt1, setRow_Wt2, setRow_Wt3, setRow_St0, setRow_St1, setRow_T0, setRow_T1, setRow_E0, setRow_E1, setRow_E2, setRow_E3, setRow_E4, setRow_E5, se, t_ke]
      rfl
    | some f =>
      obtain ⟨k1, k2⟩ := kindD hi
      have d1 : decide ((1 : Int) ≤ e.kind) = true := decide_eq_true k1
      have d2 : decide (e.kind ≤ 6) = true := decide_eq_true k2
      have hq := lawD s t hi hj
      simp only [resD, zE, cE, bnd_some', bnd_none', br_true', br_false', gBool_b, gInt_i, gStr_s, gSl_r, gOwn_r, gRows_r, gMap_r, cellAt_zero, cellAt_succ, hdO_c, tlO_c, bNot_t, bNot_f, bNot_dec, bNot_bNot, br_bNot, len_rS, len_rI, len_rU, len_rO, len_rB, len_rM, len_rC, len_rF, len_rW, len_rWs, len_rWt, len_rSt, len_rT, len_rE, beq_self_eq_true, iEq_dec, iLt_dec, iLe_dec, bAnd_dec, bAnd_t, bAnd_f, bAnd_r, sLen_bs, sCat_bs, sEq_bs, sSub_ok, nrows_map, nrows_nil, nrows_one, nrows_cons, catR_map, catR_snoc, rowsStr_one, gTupN_if, gAggN_if, gCellsN_if, decide_true, decide_false, decide_eq_true_eq, if_true, if_false, ite_true, ite_false, true_and, and_true, false_and, and_false, not_true_eq_false, not_false_eq_true, Bool.false_eq_true, Bool.true_eq_false, reduceCtorEq, List.length_cons, List.length_nil, Int.reduceLE, Int.reduceLT, Int.reduceEq, Int.reduceNeg, Nat.reduceAdd, Int.toNat_natCast, okR_S, okR_I, okR_U, okR_O, okR_B, okR_M, okR_C, okR_F, okR_W, okR_Ws, okR_Wt, okR_St, okR_T, okR_E, okR_cons, okR_nil, Bool.and_self, iEq_self, ↓dec_selfI, ↓dec_selfS, c_S0, setRow_S, rowLen_S, cat1_S, rowAt_S, set_S, sub_S, rowZ_S, c_I0, setRow_I, rowLen_I, cat1_I, rowAt_I, set_I, sub_I, rowZ_I, c_U0, setRow_U, rowLen_U, cat1_U, rowAt_U, set_U, sub_U, rowZ_U, c_O0, c_O1, setRow_O, rowLen_O, cat1_O, rowAt_O, set_O, sub_O, rowZ_O, c_B0, c_B1, setRow_B, rowLen_B, cat1_B, rowAt_B, set_B, sub_B, rowZ_B, c_M0, c_M1, c_M2, c_M3, c_M4, c_M5, c_M6, setRow_M, rowLen_M, cat1_M, rowAt_M, set_M, sub_M, rowZ_M, c_C0, c_C1, c_C2, c_C3, c_C4, c_C5, c_C6, c_C7, c_C8, c_C9, c_C10, c_C11, c_C12, setRow_C, rowLen_C, cat1_C, rowAt_C, set_C, sub_C, rowZ_C, c_F0, c_F1, c_F2, c_F3, setRow_F, rowLen_F, cat1_F, rowAt_F, set_F, sub_F, rowZ_F, c_W0, c_W1, c_W2, setRow_W, rowLen_W, cat1_W, rowAt_W, set_W, sub_W, rowZ_W, c_Ws0, setRow_Ws, rowLen_Ws, cat1_Ws, rowAt_Ws, set_Ws, sub_Ws, rowZ_Ws, c_Wt0, c_Wt1, c_Wt2, c_Wt3, setRow_Wt, rowLen_Wt, cat1_Wt, rowAt_Wt, set_Wt, sub_Wt, rowZ_Wt, c_St0, c_St1, setRow_St, rowLen_St, cat1_St, rowAt_St, set_St, sub_St, rowZ_St, c_T0, c_T1, setRow_T, rowLen_T, cat1_T, rowAt_T, set_T, sub_T, rowZ_T, c_E0, c_E1, c_E2, c_E3, c_E4, c_E5, setRow_E, rowLen_E, cat1_E, rowAt_E, set_E, sub_E, rowZ_E, catR_nil, catR_nilr, setRow_O0, setRow_O1, setRow_B0, setRow_B1, setRow_M0, setRow_M1, setRow_M2, setRow_M3, setRow_M4, setRow_M5, setRow_M6, setRow_C0, setRow_C1, setRow_C2, setRow_C3, setRow_C4, setRow_C5, setRow_C6, setRow_C7, setRow_C8, setRow_C9, setRow_C10, setRow_C11, setRow_C12, setRow_F0, setRow_F1, setRow_F2, setRow_F3, setRow_W0, setRow_W1, setRow_W2, setRow_Wt0, setRow_Wt1, setRow_Wt2, setRow_Wt3, setRow_St0, setRow_St1, setRow_T0, setRow_T1, setRow_E0, setRow_E1, setRow_E2, setRow_E3, setRow_E4, setRow_E5, se, d1, d2]
      rw [decide_eq_decide.2 ev_eq, hq]
      cases decide (s = t) <;> rfl
end Kw
