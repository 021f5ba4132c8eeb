import Derived.Test.YtphammifhilpdaaDoorV09
import Derived.Test.YtphammifhilpdaaDoorV11
namespace Kw
open Go Go.Proofs
section
variable (L D : Nat)
theorem ext_TagNames (s : S) (hs : s.length ≤ 2000000) : ev E L (D + 1) 6 [.str (bs s)] [] = some (.own ((cutS [] s).map rS), []) := by
  have h : E.ext 6 = some tagQ := rfl
  have h2 : tagQ [.str (bs s)] = some (.own ((cutS [] s).map rS)) := by
    have e : (bs s).size ≤ 2000000 := hs
    have e2 : (bs s).data.toList = s := rfl
    unfold tagQ
    simp only [e, if_true, e2]
    rfl
  unfold ev
  simp only [h, h2]
  rfl
theorem lp_TagNames (s : S) (hs : s.length ≤ 2000000) : ∀ (m : Nat) (r a p : S) (done : List S), r.length < m → s = p ++ a ++ r → done.length ≤ p.length →
    LP_5_4 L D m (done.map rS) (bs s) done.length p.length (p ++ a).length = some (.sl ((done ++ cutS a r).map rS), [])
  | 0, r, _, _, _, h, _, _ => by omega
  | m + 1, r, a, p, done, h, e, hd => by
    rw [LP_5_4_succ]
    have hlen : s.length = (p ++ a).length + r.length := by rw [e]; simp; omega
    cases r with
    | nil =>
      have h8' : decide (((p ++ a).length : Int) < s.length) = false := by rw [decide_eq_false_iff_not]; simp only [List.length_nil] at hlen; omega
      have ec : cutS a [] = [] := rfl
      simp (disch := omega) only [br_true', br_false', iEq_dec, iLt_dec, sLen_bs, nrows_map, ↓dec_selfI, h8', ec, List.append_nil]
    | cons c r =>
      have hl2 : s.length = (p ++ a).length + r.length + 1 := by rw [hlen]; simp; omega
      have h8' : decide (((p ++ a).length : Int) < s.length) = true := by rw [decide_eq_true_eq]; omega
      have hix : ix s ((p ++ a).length : Int) = c := by
        rw [ix_nat s _ (by omega)]
        have : s[(p ++ a).length]? = some c := by rw [e, List.getElem?_append_right (by omega)]; simp
        exact (List.getElem?_eq_some_iff.1 this).2
      have hat : sAt (bs s) ((p ++ a).length : Int) = some ((c.toNat : Int)) := by rw [sAt_ok s _ (by omega) (by omega), hix]
      have a1 : iAdd .i64 ((p ++ a).length : Int) 1 = (((p ++ a).length + 1 : Nat) : Int) := iAdd_n1 _ (by omega)
      have pl : p.length ≤ (p ++ a).length := by simp
      by_cases hc : c = 59
      · subst hc
        have b1 : decide (((59 : UInt8).toNat : Int) = 59) = true := rfl
        have b2 : decide ((0 : Int) ≤ (p.length : Int)) = true := by rw [decide_eq_true_eq]; omega
        have b3 : decide ((p.length : Int) ≤ (((p ++ a).length + 1 : Nat) : Int)) = true := by rw [decide_eq_true_eq]; omega
        have b4 : decide ((((p ++ a).length + 1 : Nat) : Int) ≤ (s.length : Int)) = true := by rw [decide_eq_true_eq]; omega
        have sub : (s.take ((p ++ a).length + 1)).drop p.length = a ++ [59] := by
          have e1 : s.take ((p ++ a).length + 1) = p ++ (a ++ [59]) := by
            rw [e, List.take_append, List.take_of_length_le (by omega)]
            simp
          rw [e1]; simp
        have ih := lp_TagNames s hs m r [] (p ++ a ++ [59]) (done ++ [a ++ [59]]) (by simp at h; omega) (by rw [e]; simp) (by simp at hd pl ⊢; omega)
        rw [cutS_hit]
        have e3 : done ++ (a ++ [59]) :: cutS [] r = done ++ [a ++ [59]] ++ cutS [] r := by simp
        rw [e3, ← ih]
        have e5 : (p ++ a ++ [59]).length = (p ++ a).length + 1 := by simp; omega
        have e6 : (p ++ a ++ [59] ++ []).length = (p ++ a).length + 1 := by simp; omega
        rw [e5, e6]
        have b34 : decide ((p.length : Int) ≤ (((p ++ a).length + 1 : Nat) : Int) ∧ (((p ++ a).length + 1 : Nat) : Int) ≤ (s.length : Int)) = true := by rw [decide_eq_true_eq]; omega
        have hdl : done.length ≤ 2000000 := by omega
        simp (disch := omega) only [bnd_some', br_true', beq_self_eq_true, iEq_dec, iLt_dec, iLe_dec, bAnd_r, sLen_bs, sSub_ok, nrows_map, nrows_nil, nrows_cons, List.length_cons, List.length_nil, Nat.reduceAdd, Int.toNat_natCast, okR_S, okR_cons, okR_nil, Bool.and_self, ↓dec_selfI, cat1_S, h8', hat, b1, a1, b2, b3, b4, sub, fits_true]
      · have b1 : decide ((c.toNat : Int) = 59) = false := by
          rw [decide_eq_false_iff_not]
          intro h9
          exact hc (UInt8.toNat_inj.1 (by simpa using (by omega : c.toNat = 59)))
        have ih := lp_TagNames s hs m r (a ++ [c]) p done (by simp at h; omega) (by rw [e]; simp) hd
        rw [cutS_miss _ _ hc, ← ih]
        have e5 : (p ++ (a ++ [c])).length = (p ++ a).length + 1 := by simp; omega
        rw [e5]
        simp (disch := omega) only [bnd_some', br_true', br_false', iEq_dec, iLt_dec, sLen_bs, h8', hat, b1, a1]
theorem t_sTagNames (hL : 1099511627776 ≤ L) (s : S) (hs : s.length ≤ 2000000) : ev E L (D + 1) 5 [.str (bs s)] [] = some (.sl ((cutS [] s).map rS), []) := by
  rw [eq_5]
  have := lp_TagNames L D s hs L s [] [] [] (by omega) (by simp) (by simp)
  exact this
theorem lp_eqStringS (l : List S) (hl : l.length ≤ 2000000) : ∀ (m k : Nat), l.length < m + k → k ≤ l.length → LP_7_4 L D m (l.map rS) (l.map rS) k = some (.bool true, [])
  | 0, _, h, h2 => by omega
  | m + 1, k, h, h2 => by
    rw [LP_7_4_succ]
    by_cases hk : k < l.length
    · have h8' : decide ((k : Int) < l.length) = true := by rw [decide_eq_true_eq]; omega
      have ih := lp_eqStringS l hl m (k + 1) (by omega) (by omega)
      rw [← ih]
      simp (disch := omega) only [bnd_some', br_true', br_false', gStr_s, bNot_t, iLt_dec, sEq_bs, nrows_map, ↓dec_selfS, c_S0, rowZ_S, h8', iAdd_n1]
    · have h8' : decide ((k : Int) < l.length) = false := by rw [decide_eq_false_iff_not]; omega
      simp (disch := omega) only [br_false', iLt_dec, nrows_map, h8']
theorem t_eqStringS (hL : 1099511627776 ≤ L) (l : List S) (hl : l.length ≤ 2000000) : ev E L (D + 1) 7 [.sl (l.map rS), .sl (l.map rS)] [] = some (.bool true, []) := by
  rw [eq_7]
  have := lp_eqStringS L D l hl L 0 (by omega) (by omega)
  rw [show ((0 : Nat) : Int) = 0 from rfl] at this
  simp (disch := omega) only [br_false', bNot_t, iEq_dec, nrows_map, ↓dec_selfI]
  exact this
theorem lp_markText : ∀ (m k : Nat) (s : S), k < m → s.length + k ≤ 1000000000 → ∃ t : S, LP_16_4 L D m k (bs s) = some (.str (bs t), [])
  | 0, _, _, h, _ => by omega
  | m + 1, k, s, h, hs => by
    rw [LP_16_4_succ]
    by_cases hk : 0 < k
    · have h8' : decide ((0 : Int) < (k : Int)) = true := by rw [decide_eq_true_eq]; omega
      have e10 : decide ((10 : Int) = 0) = false := rfl
      have q : iQuo .i64 (k : Int) 10 = ((k / 10 : Nat) : Int) := (iQuo_pos (by omega) (by omega) (by omega)).trans (by omega)
      obtain ⟨t, ih⟩ := lp_markText m (k / 10) ([(iWrap .u8 (iAdd .i64 48 (iRem (k : Int) 10))).toNat.toUInt8] ++ s) (by omega) (by simp; omega)
      refine ⟨t, ?_⟩
      rw [← ih]
      simp (disch := omega) only [bnd_some', br_true', br_false', iEq_dec, iLt_dec, sLen_bs, sCat_bs, nrows_nil, nrows_cons, rowsStr_one, decide_false, List.length_cons, List.length_nil, Int.reduceEq, Nat.reduceAdd, ↓dec_selfI, h8', q, fits_true]
    · have h8' : decide ((0 : Int) < (k : Int)) = false := by rw [decide_eq_false_iff_not]; omega
      refine ⟨[109] ++ s, ?_⟩
      simp (disch := omega) only [br_true', br_false', iLt_dec, sLen_bs, sCat_bs, List.length_cons, List.length_nil, Nat.reduceAdd, h8', fits_true]
theorem t_markText (hL : 1099511627776 ≤ L) (k : Nat) (h1 : 1 ≤ k) (h2 : k ≤ 1000000000) : ∃ t : S, ev E L (D + 1) 16 [.int .i64 k] [] = some (.str (bs t), []) := by
  rw [eq_16]
  have e0 : decide ((k : Int) ≤ 0) = false := by rw [decide_eq_false_iff_not]; omega
  obtain ⟨t, h⟩ := lp_markText L D L k [] (by omega) (by simp; omega)
  refine ⟨t, ?_⟩
  simp (disch := omega) only [br_false', iLe_dec, e0]
  exact h
theorem marks (hL : 1099511627776 ≤ L) : ∃ g : Nat → S, ∀ k : Nat, k ≤ 3000000 → ev E L (D + 1) 16 [.int .i64 ((k + 1 : Nat) : Int)] [] = some (.str (bs (g k)), []) :=
  ⟨fun k => if h : k ≤ 3000000 then Classical.choose (t_markText L D hL (k + 1) (by omega) (by omega)) else [], fun k hk => by
    simp only [dif_pos hk]
    exact Classical.choose_spec (t_markText L D hL (k + 1) (by omega) (by omega))⟩
theorem lp_mark (g : Nat → S) (hg : ∀ k : Nat, k ≤ 3000000 → ev E L (D + 1) 16 [.int .i64 ((k + 1 : Nat) : Int)] [] = some (.str (bs (g k)), [])) (n : Nat) (hn : n ≤ 2000000) :
    ∀ (m i : Nat) (x : List S), n < m + i → i ≤ n → x.length = n → (∀ j, j < i → x[j]? = some (g j)) → ∃ y : List S, y.length = n ∧ (∀ j, j < n → y[j]? = some (g j)) ∧ LP_8_2 L (D + 1) m (x.map rS) n ((i + 1 : Nat) : Int) i = some (.int .i64 ((n + 1 : Nat) : Int), [.rows (y.map rS)])
  | 0, _, _, h, _, _, _ => by omega
  | m + 1, i, x, h, h2, hx, hj => by
    rw [LP_8_2_succ]
    subst hx
    by_cases hk : i < x.length
    · have h8' : decide ((i : Int) < x.length) = true := by rw [decide_eq_true_eq]; omega
      obtain ⟨y, y1, y2, y3⟩ := lp_mark g hg x.length hn m (i + 1) (x.set i (g i)) (by omega) (by omega) (by simp) (fun j hj' => by
        rw [List.getElem?_set]
        by_cases e : i = j
        · rw [if_pos e, if_pos (by omega), e]
        · rw [if_neg e]; exact hj j (by omega))
      refine ⟨y, y1, y2, ?_⟩
      rw [← y3]
      simp (disch := omega) only [bnd_some', br_true', gStr_s, iEq_dec, iLt_dec, iLe_dec, nrows_map, decide_true, Int.reduceLE, Int.toNat_natCast, ↓dec_selfI, setRow_S, rowLen_S, rowAt_S, set_S, rowZ_S, h8', hg, iAdd_n1]
    · have h8' : decide ((i : Int) < x.length) = false := by rw [decide_eq_false_iff_not]; omega
      have e : i = x.length := by omega
      subst e
      refine ⟨x, rfl, hj, ?_⟩
      simp (disch := omega) only [br_true', br_false', iEq_dec, iLt_dec, nrows_map, ↓dec_selfI, h8']
theorem lp_held (g : Nat → S) (hg : ∀ k : Nat, k ≤ 3000000 → ev E L (D + 1) 16 [.int .i64 ((k + 1 : Nat) : Int)] [] = some (.str (bs (g k)), [])) (y : List S) (hn : y.length ≤ 2000000) (hy : ∀ j, j < y.length → y[j]? = some (g j)) :
    ∀ (m i : Nat), y.length < m + i → i ≤ y.length → LP_9_2 L (D + 1) m (y.map rS) ((i + 1 : Nat) : Int) i = some (.int .i64 ((y.length + 1 : Nat) : Int), [])
  | 0, _, h, _ => by omega
  | m + 1, i, h, h2 => by
    rw [LP_9_2_succ]
    by_cases hk : i < y.length
    · have h8' : decide ((i : Int) < y.length) = true := by rw [decide_eq_true_eq]; omega
      have ih := lp_held g hg y hn hy m (i + 1) (by omega) (by omega)
      have e : ix y (i : Int) = g i := by
        rw [ix_nat y i hk]
        have := hy i hk
        rw [List.getElem?_eq_getElem hk] at this
        exact Option.some.inj this
      rw [← ih]
      simp (disch := omega) only [bnd_some', br_true', br_false', gStr_s, bNot_t, iLt_dec, sEq_bs, nrows_map, ↓dec_selfS, c_S0, rowZ_S, h8', hg, e, iAdd_n1]
    · have h8' : decide ((i : Int) < y.length) = false := by rw [decide_eq_false_iff_not]; omega
      have e : i = y.length := by omega
      subst e
      simp (disch := omega) only [br_false', iLt_dec, nrows_map, h8']
theorem t_FnExactTagNames (hL : 1099511627776 ≤ L) (s : S) : ev E L (D + 10) 3 [.str (bs s)] [] = some (.bool true, []) := by
  rw [eq_3]
  by_cases hb : 1048576 < s.length
  · have h' : decide ((1048576 : Int) < s.length) = true := by rw [decide_eq_true_eq]; omega
    simp only [br_true', iLt_dec, sLen_bs, h']
  have h' : decide ((1048576 : Int) < s.length) = false := by rw [decide_eq_false_iff_not]; omega
  have h1 := ext_TagNames L (D + 8) s (by omega)
  have h2 := t_sTagNames L (D + 8) hL s (by omega)
  have hcl : (cutS [] s).length ≤ 2000000 := by
    have : (cutS [] s).length ≤ s.length := by rw [cutS_count]; exact List.count_le_length
    omega
  have h3 := t_eqStringS L (D + 8) hL (cutS [] s) hcl
  obtain ⟨g, hg⟩ := marks L (D + 7) hL
  obtain ⟨y, y1, y2, y3⟩ := lp_mark L (D + 7) g hg (cutS [] s).length hcl L 0 (cutS [] s) (by omega) (by omega) rfl (fun j hj => by omega)
  have h4 : ev E L (D + 9) 8 [.ref (.imp 0) (cutS [] s).length, .int .i64 1] [.rows ((cutS [] s).map rS)] = some (.int .i64 (((cutS [] s).length + 1 : Nat) : Int), [.rows (y.map rS)]) := by
    have := eq_8 L (D + 8) ((cutS [] s).map rS) 1
    rw [nrows_map] at this
    rw [this]
    exact y3
  have h5 : ev E L (D + 9) 9 [.sl (y.map rS), .int .i64 1] [] = some (.int .i64 (((cutS [] s).length + 1 : Nat) : Int), []) := by
    rw [eq_9, ← y1]
    exact lp_held L (D + 7) g hg y (by omega) (fun j hj => y2 j (by omega)) L 0 (by omega) (by omega)
  have e1 : decide ((y.length : Int) = ((cutS [] s).length : Int)) = true := by rw [decide_eq_true_eq]; omega
  have e2 : decide (((cutS [] s).length : Int) = (y.length : Int)) = true := by rw [decide_eq_true_eq]; omega
  have e3 : decide ((((cutS [] s).length + 1 : Nat) : Int) < 0) = false := by rw [decide_eq_false_iff_not]; omega
  simp (disch := omega) only [bnd_some', br_true', br_false', gBool_b, gInt_i, gSl_r, gOwn_r, gRows_r, hdO_c, bNot_t, iEq_dec, iLt_dec, sLen_bs, nrows_map, ↓dec_selfI, h', h1, h2, h3, h4, h5, e1, e2, e3]
end
end Kw
