import Derived.Test.YtphammifhilpdaaGreatDoorV10
import Derived.Test.YtphammifhilpdaaGreatDoorV11
import Derived.Test.YtphammifhilpdaaGreatDoorV12
import Derived.Test.YtphammifhilpdaaGreatDoorV13
import Derived.Test.YtphammifhilpdaaGreatDoorV21
import Derived.Test.YtphammifhilpdaaGreatDoorV19
import Derived.Test.YtphammifhilpdaaGreatDoorV20
namespace Kw
open Go Go.Proofs
section
variable (L D : Nat)
theorem t_l1In (a b c : Int) : ev E L (D + 1) 34 [.int .i64 a, .int .i64 b, .int .i64 c] [] = some (.bool (decide (b ≤ a ∧ a ≤ c)), []) := by
  rw [eq_34]
  by_cases h : b ≤ a <;> simp [h]
theorem t_l1Who (w : Int) (h : isWho w) : ev E L (D + 1) 57 [.int .i64 w] [] = some (.str (bs (whoS w)), []) := by
  obtain ⟨h1, h2⟩ := h
  rw [eq_57]
  simp (disch := omega) only [bnd_some', iEq_dec, nrows_nil, nrows_cons, rowsStr_one, br_eq, if_true, ↓dec_selfI, iAdd_w, iWrap_u]
  have e : (65 + w).toNat = 65 + w.toNat := by omega
  rw [e]; rfl
theorem lp_l1Plain : ∀ (i n : Nat) (acc : S), i < n → i ≤ 1000000000000 → acc.length + i ≤ 2000000000000 → LP_58_2 L D n i (bs acc) = some (.str (bs (plain i ++ acc)), []) := by
  intro i
  induction i using Nat.strongRecOn with
  | ind i ih =>
    intro n acc hn hi ha
    obtain ⟨n, rfl⟩ : ∃ m, n = m + 1 := ⟨n - 1, by omega⟩
    rw [LP_58_2_succ]
    by_cases h : 9 < i
    · have hlt : (9 : Int) < i := by omega
      simp (disch := omega) only [bnd_some', iEq_dec, iLt_dec, sLen_bs, sCat_bs, nrows_nil, nrows_cons, rowsStr_one, br_eq, decide_true, decide_false, if_true, if_false, Bool.false_eq_true, List.length_cons, List.length_nil, Int.reduceEq, Nat.reduceAdd, ↓dec_selfI, hlt, iRem_pos, iQuo_pos, iAdd_w, iWrap_u, fits_true]
      have e1 : (i : Int) / 10 = ((i / 10 : Nat) : Int) := by omega
      have e2 : (48 + (i : Int) % 10).toNat = 48 + i % 10 := by omega
      rw [e1, e2, ih (i / 10) (by omega) n _ (by omega) (by omega) (by simp; omega)]
      conv => rhs; rw [plain, dif_pos h]
      simp [digit]
    · have hlt : ¬ (9 : Int) < i := by omega
      simp (disch := omega) only [bnd_some', iEq_dec, iLt_dec, sLen_bs, sCat_bs, nrows_nil, nrows_cons, rowsStr_one, br_eq, decide_false, if_true, if_false, Bool.false_eq_true, List.length_cons, List.length_nil, Int.reduceEq, Nat.reduceAdd, ↓dec_selfI, hlt, iAdd_w, iWrap_u, fits_true]
      have e2 : (48 + (i : Int)).toNat = 48 + i := by omega
      rw [e2]
      conv => rhs; rw [plain, dif_neg h]
      simp [digit]
theorem t_l1Plain (hL : 1099511627776 ≤ L) (n : Int) (h0 : 0 ≤ n) (h1 : n ≤ 1000000000000) : ev E L (D + 1) 58 [.int .i64 n] [] = some (.str (bs (plain n.toNat)), []) := by
  rw [eq_58]
  obtain ⟨k, rfl⟩ : ∃ k : Nat, n = k := ⟨n.toNat, by omega⟩
  have := lp_l1Plain L D k L [] (by omega) (by omega) (by simp; omega)
  rw [this]; simp
theorem plain_len (n : Nat) : (plain n).length ≤ n + 1 := by
  induction n using Nat.strongRecOn with
  | ind n ih =>
    rw [plain]
    split
    · have := ih (n / 10) (by omega)
      simp; omega
    · simp
theorem t_MakNew (hL : 1099511627776 ≤ L) (w n : Int) : ev E L (D + 2) 36 [.int .i64 w, .int .i64 n] [] = some (.str (bs (makNew w n)), []) := by
  rw [eq_36]
  by_cases h : isWho w
  · by_cases h' : 1 ≤ n ∧ n ≤ 99
    · have hl := plain_len n.toNat
      have hh := h
      obtain ⟨h1, h2⟩ := hh
      have e : makNew w n = whoS w ++ plain n.toNat ++ [59] := if_pos ⟨h, h'⟩
      rw [e]
      have e1 : (whoS w).length = 1 := rfl
      simp (disch := first | assumption | omega) only [t_l1In, h1, h2, h', bnd_some', gBool_b, gStr_s, bNot_t, bNot_f, sLen_bs, sCat_bs, br_eq, decide_true, if_true, if_false, and_true, Bool.false_eq_true, List.length_cons, List.length_nil, Nat.reduceAdd, t_l1Who, t_l1Plain, fits_true, List.length_append, e1]
    · have hh := h
      obtain ⟨h1, h2⟩ := hh
      have e : makNew w n = [] := if_neg (fun e => h' e.2)
      rw [e]
      simp only [t_l1In, h1, h2, h', bnd_some', gBool_b, bNot_t, bNot_f, sLen_bs, br_eq, decide_true, decide_false, if_true, and_true, List.length_cons, List.length_nil, Nat.reduceAdd]
  · have h3 : ¬ (0 ≤ w ∧ w ≤ 7) := h
    have e : makNew w n = [] := if_neg (fun e => h e.1)
    rw [e]
    simp only [t_l1In, h3, bnd_some', gBool_b, bNot_t, bNot_f, bNot_dec, sLen_bs, br_eq, decide_false, decide_eq_true_eq, if_false, Bool.false_eq_true, List.length_cons, List.length_nil, Nat.reduceAdd]
theorem t_l1More (a b : Int) (h : 0 ≤ a ∧ a ≤ 1099511627776) (h' : 0 ≤ b ∧ b ≤ 1099511627776) : ev E L (D + 1) 98 [.int .i64 a, .int .i64 b] [] = some (.int .i64 (if b = 0 then 0 else a + b), []) := by
  rw [eq_98]
  simp (disch := omega) only [iEq_dec, br_eq, decide_eq_true_eq, iAdd_w]
  split <;> rfl
end
end Kw
namespace Kw
open Go Go.Proofs
section
variable (L D : Nat)
theorem fresh_tail (hL : 1099511627776 ≤ L) (s : S) (p k num : Nat) (hs : s.length ≤ 1000000000000) (hp : p < s.length) (hc : 65 ≤ (ix s p).toNat) (hpk : p < k) :
    br (bNot (iLe (sLen (bs s)) k)) (bnd (sAt (bs s) k) fun b => br (bNot (bNot (iEq b 59))) (bnd (sAt (bs s) p) fun b => bnd (ev E L (D + 2) 36 [MV.int IntKind.i64 (iWrap IntKind.i64 (iSub IntKind.u8 b 65)), MV.int IntKind.i64 num] []) fun r => bnd (gStr r.1) fun s_1 => br (bAnd (iLe 0 p) (bAnd (iLe p (iAdd IntKind.i64 k 1)) (iLe (iAdd IntKind.i64 k 1) (sLen (bs s))))) (br (bNot (sEq s_1 (sSub (bs s) p (iAdd IntKind.i64 k 1)))) (some ((MV.int IntKind.i64 0, []) : Res)) (some (MV.int IntKind.i64 (iSub IntKind.i64 (iAdd IntKind.i64 k 1) p), []))) none) (some (MV.int IntKind.i64 0, []))) (some (MV.int IntKind.i64 0, [])) = some (.int .i64 (freshEnd s p k num), []) := by
  have hb := toNat_lt (ix s p)
  have hcI : (65 : Int) ≤ (ix s (p : Int)).toNat := by omega
  unfold freshEnd
  by_cases h1 : k < s.length
  · have h1'' : ¬ (s.length : Int) ≤ k := by omega
    by_cases h59 : (ix s k).toNat = 59
    · have h59' : ((ix s (k : Int)).toNat : Int) = 59 := by omega
      have e1 : ((k : Int) + 1).toNat = k + 1 := by omega
      have e2 : (0 : Int) ≤ p := by omega
      have e3 : (p : Int) ≤ k + 1 := by omega
      have e4 : (k : Int) + 1 ≤ s.length := by omega
      simp (disch := first | assumption | omega) only [bnd_some', gStr_s, bNot_t, bNot_f, bNot_dec, iEq_dec, iLe_dec, bAnd_r, sLen_bs, sEq_bs, sSub_ok, br_eq, decide_true, decide_false, decide_eq_true_eq, if_true, Int.toNat_natCast, ↓dec_selfI, h1'', sAt_ok, h59', t_MakNew, iSub_u, iWrap_w, iAdd_w, iSub_w, e1, e2, e3, e4]
      by_cases h : makNew (((ix s (p : Int)).toNat : Int) - 65) num = (s.take (k + 1)).drop p
      · rw [if_neg (by simpa using h), if_pos ⟨h1, h59, h⟩]
      · rw [if_pos (by simpa using h), if_neg (fun e => h e.2.2)]
    · have h59' : ¬ ((ix s (k : Int)).toNat : Int) = 59 := by omega
      simp (disch := omega) only [bnd_some', bNot_t, bNot_f, iEq_dec, iLe_dec, bAnd_dec, sLen_bs, sSub_ok, br_eq, decide_false, decide_eq_true_eq, if_true, if_false, false_and, and_false, Bool.false_eq_true, Int.toNat_natCast, h1'', sAt_ok, h59', h59]
  · have h1'' : (s.length : Int) ≤ k := by omega
    simp only [bNot_t, bNot_dec, iEq_dec, iLe_dec, bAnd_dec, sLen_bs, sSub_ok, br_eq, decide_true, decide_eq_true_eq, if_false, false_and, Bool.false_eq_true, Int.toNat_natCast, h1'', h1]
theorem lp_l1Fresh (hL : 1099511627776 ≤ L) (s : S) (p k num n : Nat) (hs : s.length ≤ 1000000000000) (hp : p < s.length) (hc : 65 ≤ (ix s p).toNat) (hk : k ≤ s.length) (hpk : p < k) (hnum : num ≤ 1000000) :
    LP_99_5 L (D + 2) (n + 1) (bs s) p num k = if k < s.length ∧ isDig (ix s k) ∧ k < p + 4 then LP_99_5 L (D + 2) n (bs s) p ((num * 10 + ((ix s k).toNat - 48) : Nat) : Int) ((k + 1 : Nat) : Int) else some (.int .i64 (freshEnd s p k num), []) := by
  rw [LP_99_5_succ]
  have tail := fresh_tail L D hL s p k num hs hp hc hpk
  by_cases h1 : k < s.length
  · have hb2 := toNat_lt (ix s k)
    have h1' : (k : Int) < s.length := by omega
    have h1'' : ¬ (s.length : Int) ≤ k := by omega
    have es : sLen (bs s) = s.length := sLen_bs s
    by_cases hd : isDig (ix s k)
    · obtain ⟨d1, d2⟩ := hd
      have d1' : (48 : Int) ≤ (ix s (k : Int)).toNat := by omega
      have d2' : ((ix s (k : Int)).toNat : Int) ≤ 57 := by omega
      by_cases h4 : k < p + 4
      · have h4' : (k : Int) < p + 4 := by omega
        rw [if_pos ⟨h1, ⟨d1, d2⟩, h4⟩]
        simp (disch := omega) only [bnd_some', bNot_dec, iEq_dec, iLt_dec, iLe_dec, bAnd_dec, sLen_bs, sSub_ok, br_eq, decide_true, decide_eq_true_eq, if_true, Int.toNat_natCast, h1', d1', d2', h4', sAt_ok, iAdd_w, iMul_w, iSub_u, iWrap_w]
        congr 1
        omega
      · have h4' : ¬ (k : Int) < p + 4 := by omega
        rw [if_neg (fun e => h4 e.2.2)]
        have c1 : iLt (k : Int) (sLen (bs s)) = true := by rw [es]; simpa using h1
        have c2 : sAt (bs s) (k : Int) = some ((ix s (k : Int)).toNat : Int) := sAt_ok _ _ (by omega) h1'
        have c3 : iLe 48 ((ix s (k : Int)).toNat : Int) = true := by simpa using d1'
        have c4 : iLe ((ix s (k : Int)).toNat : Int) 57 = true := by simpa using d2'
        have c5 : iLt (k : Int) (iAdd IntKind.i64 (p : Int) 4) = false := by rw [iAdd_w (by omega) (by omega)]; simpa using h4'
        rw [c2] at tail
        simp only [bnd_some'] at tail
        rw [c1, c2]
        simp only [br_true', bnd_some']
        rw [c3, c4, c5]
        simp only [br_true', br_false']
        exact tail
    · rw [if_neg (fun e => hd e.2.1)]
      have c1 : iLt (k : Int) (sLen (bs s)) = true := by rw [es]; simpa using h1
      have c2 : sAt (bs s) (k : Int) = some ((ix s (k : Int)).toNat : Int) := sAt_ok _ _ (by omega) h1'
      rw [c2] at tail
      simp only [bnd_some'] at tail
      rw [c1, c2]
      simp only [br_true', bnd_some']
      by_cases d1 : 48 ≤ (ix s k).toNat
      · have d2 : ¬ (ix s k).toNat ≤ 57 := fun e => hd ⟨d1, e⟩
        have c3 : iLe 48 ((ix s (k : Int)).toNat : Int) = true := by simpa using (by omega : (48 : Int) ≤ (ix s (k : Int)).toNat)
        have c4 : iLe ((ix s (k : Int)).toNat : Int) 57 = false := by simpa using (by omega : (57 : Int) < (ix s (k : Int)).toNat)
        rw [c3, c4]
        simp only [br_true', br_false']
        exact tail
      · have c3 : iLe 48 ((ix s (k : Int)).toNat : Int) = false := by simpa using (by omega : ((ix s (k : Int)).toNat : Int) < 48)
        rw [c3]
        simp only [br_false']
        exact tail
  · rw [if_neg (fun e => h1 e.1)]
    have c1 : iLt (k : Int) (sLen (bs s)) = false := by rw [sLen_bs]; simpa using (by omega : (s.length : Int) ≤ k)
    rw [c1]
    simp only [br_false']
    exact tail
theorem fresh_go (hL : 1099511627776 ≤ L) (s : S) (p : Nat) (hs : s.length ≤ 1000000000000) (hp : p < s.length) (hc : 65 ≤ (ix s p).toNat) : ∀ (m k num n B : Nat), k + m = p + 4 → k ≤ s.length → p < k → num < B → B * 10 ^ m ≤ 1000000 → m ≤ n → LP_99_5 L (D + 2) (n + 1) (bs s) p num k = some (.int .i64 (freshGo s p m k num), []) := by
  intro m
  induction m with
  | zero =>
    intro k num n B h1 h2 h3 h4 h5 h6
    rw [lp_l1Fresh L D hL s p k num n hs hp hc h2 h3 (by omega), if_neg (by omega)]; rfl
  | succ m ih =>
    intro k num n B h1 h2 h3 h4 h5 h6
    have h7 : B ≤ B * 10 ^ (m + 1) := Nat.le_mul_of_pos_right _ (Nat.pow_pos (by omega))
    rw [lp_l1Fresh L D hL s p k num n hs hp hc h2 h3 (by omega)]
    by_cases h : k < s.length ∧ isDig (ix s k)
    · rw [if_pos ⟨h.1, h.2, by omega⟩]
      obtain ⟨n, rfl⟩ : ∃ k, n = k + 1 := ⟨n - 1, by omega⟩
      obtain ⟨d1, d2⟩ := h.2
      rw [ih (k + 1) _ n (B * 10) (by omega) (by omega) (by omega) (by omega) (by rw [Nat.pow_succ] at h5; rw [Nat.mul_assoc, Nat.mul_comm 10]; exact h5) (by omega)]
      conv => rhs; rw [freshGo, if_pos h]
    · rw [if_neg (fun e => h ⟨e.1, e.2.1⟩)]
      conv => rhs; rw [freshGo, if_neg h]
theorem t_l1Fresh (hL : 1099511627776 ≤ L) (s : S) (p : Nat) (hs : s.length ≤ 1000000000000) (hp : p < s.length) : ev E L (D + 3) 99 [.str (bs s), .int .i64 p] [] = some (.int .i64 (if 65 ≤ (ix s p).toNat ∧ (ix s p).toNat ≤ 72 then freshGo s p 3 (p + 1) 0 else 0), []) := by
  rw [eq_99]
  have hb := toNat_lt (ix s p)
  have h0 : (0 : Int) ≤ p := by omega
  have h1 : (p : Int) < s.length := by omega
  simp (disch := omega) only [bnd_some', bNot_dec, iLt_dec, br_eq, decide_eq_true_eq, sAt_ok, iAdd_w]
  by_cases a : 65 ≤ (ix s p).toNat
  · by_cases b : (ix s p).toNat ≤ 72
    · rw [if_pos (by omega), if_neg (by omega), if_pos ⟨a, b⟩]
      obtain ⟨n, rfl⟩ : ∃ n, L = n + 1 := ⟨L - 1, by omega⟩
      exact fresh_go _ _ hL s p hs hp a 3 (p + 1) 0 n 1 (by omega) (by omega) (by omega) (by omega) (by decide) (by omega)
    · rw [if_pos (by omega), if_pos (by omega), if_neg (fun e => b e.2)]
  · rw [if_neg (by omega), if_neg (fun e => a e.1)]
end
end Kw
namespace Kw
open Go Go.Proofs
section
variable (L D : Nat)
theorem ix_getElem (s : S) (p : Nat) (h : p < s.length) : s.drop p = ix s p :: s.drop (p + 1) := ix_drop s p h
theorem u8_ne {a b : UInt8} : a ≠ b ↔ (a.toNat : Int) ≠ b.toNat := by rw [ne_eq, ← UInt8.toNat_inj]; omega
theorem t_l1Size (hL : 1099511627776 ≤ L) (s : S) (hs : s.length ≤ 1000000000000) : ∀ (m D p : Nat), s.length - p < m → p ≤ s.length → ev E L (D + m + 3) 75 [.str (bs s), .int .i64 p] [] = some (.int .i64 (psz (s.drop p)), []) := by
  intro m
  induction m with
  | zero => intro D p h; omega
  | succ m ih =>
    intro D p hm hp
    rw [show D + (m + 1) + 3 = (D + m + 3) + 1 by omega, eq_75]
    by_cases hlt : p < s.length
    case neg =>
      have : (s.length : Int) ≤ p := by omega
      simp only [bNot_dec, iEq_dec, iLt_dec, iLe_dec, sLen_bs, br_eq, decide_true, decide_eq_true_eq, if_true, this]
      rw [List.drop_eq_nil_of_le (by omega)]; rfl
    have h1 : ¬ (s.length : Int) ≤ p := by omega
    have hd := ix_drop s p hlt
    have hb := toNat_lt (ix s p)
    have e1 : iAdd .i64 (p : Int) 1 = ((p + 1 : Nat) : Int) := iAdd_n1 p (by omega)
    have e2 : iAdd .i64 (p : Int) 2 = ((p + 2 : Nat) : Int) := by rw [iAdd_w (by omega) (by omega)]; omega
    have hat : sAt (bs s) (p : Int) = some ((ix s (p : Int)).toNat : Int) := sAt_ok _ _ (by omega) (by omega)
    have hl1 := psz_le (s.drop (p + 1))
    have hl2 := psz_le (s.drop (p + 2))
    simp only [List.length_drop] at hl1 hl2
    have hI1 := fun (h : p + 1 ≤ s.length) => ih D (p + 1) (by omega) h
    have hI2 := fun (h : p + 2 ≤ s.length) => ih D (p + 2) (by omega) h
    have hM := fun (k a : Nat) (h1 : k ≤ 1099511627776) (h2 : a ≤ 1099511627776) => t_l1More L (D + m + 2) k a ⟨by omega, by omega⟩ ⟨by omega, by omega⟩
    have fin : ∀ (k a : Nat), (some ((MV.int .i64 (if (a : Int) = 0 then 0 else (k : Int) + a), []) : Res)) = some (.int .i64 ((if a = 0 then 0 else k + a : Nat) : Int), []) := fun k a => by
      by_cases h : a = 0
      · simp [h]
      · have : ¬ (a : Int) = 0 := by omega
        simp [h]
    rw [hd]
    generalize hc : ix s (p : Int) = c at hd hb hat
    have inj : ∀ n : UInt8, (c.toNat : Int) = n.toNat → c = n := fun n h => UInt8.toNat_inj.1 (by omega)
    simp only [bnd_some', bNot_dec, iEq_dec, iLt_dec, iLe_dec, sLen_bs, br_eq, decide_false, decide_eq_true_eq, if_false, Bool.false_eq_true, h1, hat, e1, e2]
    by_cases c1 : (c.toNat : Int) = 110
    · rw [if_neg (by simpa using c1), hI1 (by omega)]
      simp only [bnd_some', gInt_i]
      have := hM 1 (psz (s.drop (p + 1))) (by omega) (by omega)
      rw [show ((1 : Nat) : Int) = 1 from rfl] at this
      rw [this]
      simp only [bnd_some', gInt_i]
      rw [psz1 (.inl (inj 110 c1))]
      exact fin 1 _
    rw [if_pos (by simpa using c1)]
    by_cases c2 : (c.toNat : Int) = 107
    · rw [if_pos c2, hI1 (by omega)]
      simp only [bnd_some', gInt_i]
      have := hM 1 (psz (s.drop (p + 1))) (by omega) (by omega)
      rw [show ((1 : Nat) : Int) = 1 from rfl] at this
      rw [this]
      simp only [bnd_some', gInt_i]
      rw [psz1 (.inr (inj 107 c2))]
      exact fin 1 _
    rw [if_neg c2]
    by_cases c3 : (c.toNat : Int) = 109
    · rw [if_pos c3, inj 109 c3]
      by_cases hlt2 : p + 1 < s.length
      case neg =>
        have : (s.length : Int) ≤ ((p + 1 : Nat) : Int) := by omega
        rw [if_neg (by simpa using this), List.drop_eq_nil_of_le (by omega)]; rfl
      have : ¬ (s.length : Int) ≤ ((p + 1 : Nat) : Int) := by omega
      have hat2 : sAt (bs s) ((p + 1 : Nat) : Int) = some ((ix s ((p + 1 : Nat) : Int)).toNat : Int) := sAt_ok _ _ (by omega) (by omega)
      have hd2 := ix_drop s (p + 1) hlt2
      rw [if_pos (by simpa using this), hat2, hd2]
      simp only [bnd_some']
      generalize ix s ((p + 1 : Nat) : Int) = w
      by_cases w1 : (w.toNat : Int) < 65
      · rw [if_neg (by simpa using w1), psz2n (fun _ _ e => by cases e; omega)]; rfl
      rw [if_pos (by simpa using w1)]
      by_cases w2 : (72 : Int) < w.toNat
      · rw [if_pos w2, psz2n (fun _ _ e => by cases e; omega)]; rfl
      rw [if_neg w2, hI2 (by omega)]
      simp only [bnd_some', gInt_i]
      have := hM 2 (psz (s.drop (p + 2))) (by omega) (by omega)
      rw [show ((2 : Nat) : Int) = 2 from rfl] at this
      rw [this]
      simp only [bnd_some', gInt_i]
      rw [psz2 ⟨by omega, by omega⟩]
      exact fin 2 _
    rw [if_neg c3]
    by_cases c4 : (c.toNat : Int) = 114
    · rw [if_pos c4, inj 114 c4]
      by_cases hlt2 : p + 1 < s.length
      case neg =>
        have : (s.length : Int) ≤ ((p + 1 : Nat) : Int) := by omega
        rw [if_neg (by simpa using this), List.drop_eq_nil_of_le (by omega)]; rfl
      have : ¬ (s.length : Int) ≤ ((p + 1 : Nat) : Int) := by omega
      have hat2 : sAt (bs s) ((p + 1 : Nat) : Int) = some ((ix s ((p + 1 : Nat) : Int)).toNat : Int) := sAt_ok _ _ (by omega) (by omega)
      have hd2 := ix_drop s (p + 1) hlt2
      rw [if_pos (by simpa using this), hat2, hd2]
      simp only [bnd_some']
      generalize ix s ((p + 1 : Nat) : Int) = w
      by_cases w1 : (w.toNat : Int) < 49
      · rw [if_neg (by simpa using w1), psz3n (fun _ _ e => by cases e; omega)]; rfl
      rw [if_pos (by simpa using w1)]
      by_cases w2 : (57 : Int) < w.toNat
      · rw [if_pos w2, psz3n (fun _ _ e => by cases e; omega)]; rfl
      rw [if_neg w2, hI2 (by omega)]
      simp only [bnd_some', gInt_i]
      have := hM 2 (psz (s.drop (p + 2))) (by omega) (by omega)
      rw [show ((2 : Nat) : Int) = 2 from rfl] at this
      rw [this]
      simp only [bnd_some', gInt_i]
      rw [psz3 ⟨by omega, by omega⟩]
      exact fin 2 _
    rw [if_neg c4]
    by_cases c5 : (c.toNat : Int) = 101
    · rw [if_pos c5, inj 101 c5, hI1 (by omega)]
      simp only [bnd_some', gInt_i]
      rw [psz4]
      generalize ha : psz (s.drop (p + 1)) = a at hl1
      by_cases a0 : a = 0
      · subst a0; simp
      have a0' : ¬ (a : Int) = 0 := by omega
      have e3 : iAdd .i64 ((p + 1 : Nat) : Int) (a : Int) = ((p + 1 + a : Nat) : Int) := by rw [iAdd_w (by omega) (by omega)]; omega
      have e4 : iAdd .i64 1 (a : Int) = ((1 + a : Nat) : Int) := by rw [iAdd_w (by omega) (by omega)]; omega
      have hl3 := psz_le (s.drop (p + 1 + a))
      simp only [List.length_drop] at hl3
      rw [if_neg a0', if_neg a0, e3, e4, ih D (p + 1 + a) (by omega) (by omega)]
      simp only [bnd_some', gInt_i]
      rw [hM (1 + a) _ (by omega) (by omega), List.drop_drop]
      simp only [bnd_some', gInt_i]
      exact fin (1 + a) _
    rw [if_neg c5, t_l1Fresh L (D + m) hL s p hs hlt]
    simp only [bnd_some', gInt_i]
    have hfe := fresh_eq s p hlt
    rw [hc, hd] at hfe
    rw [hc, hfe, ← psz5 ⟨?_, ?_, ?_, ?_, ?_⟩]
    all_goals (intro e; rw [e] at c1 c2 c3 c4 c5; first | exact c1 rfl | exact c2 rfl | exact c3 rfl | exact c4 rfl | exact c5 rfl)
end
end Kw
namespace Kw
open Go Go.Proofs
section
variable (L D : Nat)
theorem t_SecOk (hL : 1099511627776 ≤ L) (s : S) : ev E L (D + 305) 52 [.str (bs s)] [] = some (.bool (secOk s), []) := by
  rw [eq_52, secOk_psz]
  by_cases h0 : s = []
  · subst h0; simp only [bNot_t, iEq_dec, iLe_dec, sLen_bs, sEq_bs, br_eq, decide_eq_true_eq, if_false, Bool.false_eq_true, List.length_nil, ↓dec_selfS, sEq_bs]; simp
  by_cases h1 : s.length ≤ 300
  · have h1' : (s.length : Int) ≤ 300 := by omega
    have := t_l1Size L hL s (by omega) 301 D 0 (by omega) (by omega)
    rw [show ((0 : Nat) : Int) = 0 from rfl, List.drop_zero] at this
    simp only [bnd_some', gInt_i, bNot_f, iEq_dec, iLe_dec, sLen_bs, sEq_bs, br_eq, decide_true, decide_false, if_true, true_and, h0, h1', h1, this]
    have e : ((psz s : Nat) : Int) = s.length ↔ psz s = s.length := by omega
    simp [h0, e]
  · have h1' : ¬ (s.length : Int) ≤ 300 := by omega
    simp only [bNot_f, iEq_dec, iLe_dec, sLen_bs, sEq_bs, br_eq, decide_false, if_true, if_false, false_and, and_false, Bool.false_eq_true, h0, h1', h1]
theorem t_l1Ok (hL : 1099511627776 ≤ L) (s : S) : ev E L (D + 306) 78 [.str (bs s)] [] = some (.str (bs (if secOk s = true then s else [])), []) := by
  rw [eq_78]
  simp only [t_SecOk _ _ hL, bnd_some', gBool_b, br_eq]
  cases secOk s <;> simp [bNot]
theorem secOk_len {s : S} (h : secOk s = true) : 0 < s.length ∧ s.length ≤ 300 := by
  obtain ⟨t, _, e, hl⟩ := secOk_iff.1 h
  exact ⟨by rw [e]; exact t.str_pos, hl⟩
theorem pars_next (r : S) (t : Sec) (q : S) (h : pars r = some (t, q)) : pars (110 :: r) = some (.next t, q) := by rw [pars_cons, if_pos rfl, h]
theorem pars_key (r : S) (t : Sec) (q : S) (h : pars r = some (t, q)) : pars (107 :: r) = some (.key t, q) := by rw [pars_cons, if_neg (by decide), if_pos rfl, h]
theorem pars_say (w : Int) (hw : isWho w) (r : S) (t : Sec) (q : S) (h : pars r = some (t, q)) : pars (109 :: letter w.toNat :: r) = some (.say w.toNat t, q) := by
  obtain ⟨h1, h2⟩ := hw
  have hl := letter_nat (w := w.toNat) (by omega)
  rw [pars_cons, if_neg (by decide), if_neg (by decide), if_pos rfl]
  simp only
  rw [if_pos (by omega), h, hl]
  simp
theorem mk_ok {p s : S} (f : Sec → Sec) (hq : ∀ r t q, pars r = some (t, q) → pars (p ++ r) = some (f t, q)) (hs : secOk s = true) : (if secOk (p ++ s) = true then p ++ s else []) = mk1 p s := by
  unfold mk1
  have key : secOk (p ++ s) = decide (p.length + s.length ≤ 300) := by
    unfold secOk sec
    rw [List.length_append]
    by_cases h : p.length + s.length ≤ 300
    · rw [if_pos h]
      obtain ⟨t, hw, e, hl⟩ := secOk_iff.1 hs
      have h1 : pars s = some (t, []) := by
        have := pars_str [] hw
        rw [List.append_nil, ← e] at this; exact this
      unfold pnt
      rw [hq s t [] h1]
      simp [h]
    · rw [if_neg h]; simp [h]
  rw [key]
  simp [hs]
theorem t_MakNext (hL : 1099511627776 ≤ L) (s : S) : ev E L (D + 307) 77 [.str (bs s)] [] = some (.str (bs (makNext s)), []) := by
  rw [eq_77]
  by_cases h : secOk s = true
  · have := secOk_len h
    simp (disch := omega) only [t_SecOk _ _ hL, t_l1Ok _ _ hL, h, bnd_some', gBool_b, gStr_s, bNot_t, sLen_bs, sCat_bs, br_eq, if_true, if_false, Bool.false_eq_true, List.length_cons, List.length_nil, Nat.reduceAdd, fits_true]
    rw [mk_ok .next pars_next h]; rfl
  · have h : secOk s = false := by simpa using h
    simp only [t_SecOk _ _ hL, h, bnd_some', gBool_b, bNot_f, sLen_bs, sCat_bs, br_eq, if_true, List.length_cons, List.length_nil, Nat.reduceAdd]
    simp [makNext, mk1, h]
theorem t_MakKey (hL : 1099511627776 ≤ L) (s : S) : ev E L (D + 307) 59 [.str (bs s)] [] = some (.str (bs (makKey s)), []) := by
  rw [eq_59]
  by_cases h : secOk s = true
  · have := secOk_len h
    simp (disch := omega) only [t_SecOk _ _ hL, t_l1Ok _ _ hL, h, bnd_some', gBool_b, gStr_s, bNot_t, sLen_bs, sCat_bs, br_eq, if_true, if_false, Bool.false_eq_true, List.length_cons, List.length_nil, Nat.reduceAdd, fits_true]
    rw [mk_ok .key pars_key h]; rfl
  · have h : secOk s = false := by simpa using h
    simp only [t_SecOk _ _ hL, h, bnd_some', gBool_b, bNot_f, sLen_bs, sCat_bs, br_eq, if_true, List.length_cons, List.length_nil, Nat.reduceAdd]
    simp [makKey, mk1, h]
theorem t_MakSay (hL : 1099511627776 ≤ L) (s : S) (w : Int) : ev E L (D + 307) 84 [.str (bs s), .int .i64 w] [] = some (.str (bs (makSay s w)), []) := by
  rw [eq_84]
  by_cases h : secOk s = true
  · have := secOk_len h
    by_cases hw : isWho w
    · obtain ⟨h1, h2⟩ := id hw
      simp (disch := first | assumption | omega) only [t_SecOk _ _ hL, t_l1Ok _ _ hL, t_l1In, t_l1Who, h1, h2, h, bnd_some', gBool_b, gStr_s, bNot_t, bNot_f, sLen_bs, sCat_bs, br_eq, decide_true, if_true, if_false, and_true, Bool.false_eq_true, List.length_cons, List.length_nil, Nat.reduceAdd, whoS, List.length_append, fits_true]
      have e : ([109] ++ [letter w.toNat] ++ s : S) = (109 :: whoS w) ++ s := rfl
      rw [e, mk_ok (p := 109 :: whoS w) (.say w.toNat) (pars_say w hw) h]
      simp [makSay, hw]
    · have h3 : ¬ (0 ≤ w ∧ w ≤ 7) := hw
      simp only [t_SecOk _ _ hL, t_l1In, h3, h, bnd_some', gBool_b, bNot_t, bNot_f, sLen_bs, br_eq, decide_false, if_true, List.length_cons, List.length_nil, Nat.reduceAdd]
      simp [makSay, hw]
  · have h : secOk s = false := by simpa using h
    simp only [t_SecOk _ _ hL, h, bnd_some', gBool_b, bNot_t, bNot_f, sLen_bs, br_eq, if_false, Bool.false_eq_true, List.length_cons, List.length_nil, Nat.reduceAdd]
    simp [makSay, mk1, h]
theorem t_MakEpoch (hL : 1099511627776 ≤ L) (a b : S) : ev E L (D + 307) 105 [.str (bs a), .str (bs b)] [] = some (.str (bs (makEpoch a b)), []) := by
  rw [eq_105]
  by_cases h : secOk a = true
  · have := secOk_len h
    by_cases h' : secOk b = true
    · have := secOk_len h'
      simp (disch := omega) only [t_SecOk _ _ hL, t_l1Ok _ _ hL, h, h', bnd_some', gBool_b, gStr_s, bNot_t, bNot_f, sLen_bs, sCat_bs, br_eq, if_true, if_false, Bool.false_eq_true, List.length_cons, List.length_nil, Nat.reduceAdd, List.length_append, fits_true]
      have key : secOk ([101] ++ a ++ b) = decide (1 + a.length + b.length ≤ 300) := by
        unfold secOk sec
        rw [List.length_append, List.length_append]
        by_cases hl : 1 + a.length + b.length ≤ 300
        · rw [if_pos (by simpa using hl)]
          obtain ⟨t, hw, e, _⟩ := secOk_iff.1 h
          obtain ⟨u, hu, e', _⟩ := secOk_iff.1 h'
          have h1 : pars (Sec.epoch t u).str = some (.epoch t u, []) := by
            have := pars_str (t := .epoch t u) [] ⟨hw, hu⟩
            rwa [List.append_nil] at this
          have e2 : [101] ++ a ++ b = (Sec.epoch t u).str := by rw [e, e']; rfl
          unfold pnt
          rw [e2, h1]; simp [hl]
        · rw [if_neg (by simpa using hl)]; simp [hl]
      rw [key]
      simp [makEpoch, h, h']
    · have h' : secOk b = false := by simpa using h'
      simp only [t_SecOk _ _ hL, h, h', bnd_some', gBool_b, bNot_t, bNot_f, sLen_bs, sCat_bs, br_eq, if_true, List.length_cons, List.length_nil, Nat.reduceAdd]
      simp [makEpoch, h']
  · have h : secOk a = false := by simpa using h
    simp only [t_SecOk _ _ hL, h, bnd_some', gBool_b, bNot_t, bNot_f, sLen_bs, sCat_bs, br_eq, if_false, Bool.false_eq_true, List.length_cons, List.length_nil, Nat.reduceAdd]
    simp [makEpoch, h]
end
end Kw
namespace Kw
open Go Go.Proofs
section
variable (L D : Nat)
def rHow (h : How) : Row := [.int .i64 h.op, .int .i64 h.who, .int .i64 h.n, .str (bs h.a), .str (bs h.b)]
theorem lp_l1How (s : S) (hs : s.length ≤ 300) (hp : 1 ≤ s.length) : ∀ (n k num B : Nat), s.length - k < n → (∀ j, k ≤ j → j + 1 < s.length → isDig (ix s j)) → num < B → B * 10 ^ (s.length - 1 - k) ≤ 1000000 → 65 ≤ (ix s (0 : Int)).toNat →
    LP_80_15 L D n 0 0 0 (bs []) (bs []) (bs s) num k = some (.agg (rHow ⟨1, (ix s (0 : Int)).toNat - 65, ((List.range' k (s.length - 1 - k)).foldl (fun (a j : Nat) => a * 10 + ((ix s (j : Int)).toNat - 48)) num : Nat), [], []⟩), []) := by
  intro n
  induction n with
  | zero => intro k num B h; omega
  | succ n ih =>
    intro k num B hn hd hb hB hc
    rw [LP_80_15_succ]
    have h255 := toNat_lt (ix s (0 : Int))
    have hsub : iSub .i64 (s.length : Int) 1 = ((s.length - 1 : Nat) : Int) := by rw [iSub_w (by omega) (by omega)]; omega
    by_cases h : k < s.length - 1
    · have hlt : (k : Int) < ((s.length - 1 : Nat) : Int) := by omega
      obtain ⟨d1, d2⟩ := hd k (by omega) (by omega)
      have hnb : B * 10 ≤ B * 10 ^ (s.length - 1 - k) := Nat.mul_le_mul_left _ (by rw [show s.length - 1 - k = (s.length - 1 - k - 1) + 1 by omega, Nat.pow_succ]; exact Nat.le_mul_of_pos_left _ (Nat.pow_pos (by omega)))
      simp (disch := omega) only [bnd_some', iLt_dec, sLen_bs, br_eq, decide_true, if_true, hsub, hlt, sAt_ok, iSub_u, iWrap_w, iMul_w, iAdd_w]
      have e1 : (num : Int) * 10 + (((ix s (k : Int)).toNat : Int) - 48) = ((num * 10 + ((ix s (k : Int)).toNat - 48) : Nat) : Int) := by omega
      rw [e1, show (k : Int) + 1 = ((k + 1 : Nat) : Int) by omega, ih (k + 1) _ (B * 10) (by omega) (fun j h1 h2 => hd j (by omega) h2) (by omega) (by
        rw [show s.length - 1 - k = (s.length - 1 - (k + 1)) + 1 by omega, Nat.pow_succ] at hB
        rw [Nat.mul_assoc, Nat.mul_comm 10]; exact hB) hc]
      congr 6
      rw [show s.length - 1 - k = (s.length - 1 - (k + 1)) + 1 by omega, List.range'_succ]
      rfl
    · have hlt : ¬ (k : Int) < ((s.length - 1 : Nat) : Int) := by omega
      simp (disch := omega) only [bnd_some', iLt_dec, sLen_bs, br_eq, decide_false, if_false, Bool.false_eq_true, hsub, hlt, sAt_ok, iSub_u, iWrap_w]
      rw [show s.length - 1 - k = 0 by omega]
      rfl
theorem sec_len {s : S} {t : Sec} (h : sec s = some t) : s = t.str ∧ t.wf ∧ 0 < s.length ∧ s.length ≤ 300 := by
  obtain ⟨h1, h2, h3⟩ := sec_some.1 h
  exact ⟨h2, h1, by rw [h2]; exact t.str_pos, h3⟩
theorem ix_cons0 {A : Type} [Inhabited A] (a : A) (l : List A) : ix (a :: l) (0 : Int) = a := rfl
theorem ix_cons1 {A : Type} [Inhabited A] (a b : A) (l : List A) : ix (a :: b :: l) (1 : Int) = b := rfl
theorem t_l1How (hL : 1099511627776 ≤ L) (s : S) (t : Sec) (h : sec s = some t) : ev E L (D + 305) 80 [.str (bs s)] [] = some (.agg (rHow t.how), []) := by
  obtain ⟨e, hw, hp, hl⟩ := sec_len h
  rw [eq_80]
  have hat : sAt (bs s) 0 = some ((ix s (0 : Int)).toNat : Int) := sAt_ok _ _ (by omega) (by omega)
  have hsz := t_l1Size L hL s (by omega) 301 D 1 (by omega) (by omega)
  rw [show ((1 : Nat) : Int) = 1 from rfl] at hsz
  simp only [bnd_some', iEq_dec, iLe_dec, bAnd_dec, bAnd_t, sLen_bs, sSub_ok, br_eq, decide_true, decide_eq_true_eq, Int.reduceLE, Int.toNat_natCast, hat]
  have hl1 : (1 : Int) ≤ s.length := by omega
  cases t with
  | next t =>
    have e0 : ix s (0 : Int) = 110 := by rw [e]; rfl
    rw [e0, if_pos (by rfl)]
    simp only [true_and, hl1]
    subst e; simp [Sec.how, rHow, Sec.str]
  | key t =>
    have e0 : ix s (0 : Int) = 107 := by rw [e]; rfl
    rw [e0, if_neg (by decide), if_pos (by rfl)]
    simp only [true_and, hl1]
    subst e; simp [Sec.how, rHow, Sec.str]
  | say w t =>
    have e0 : ix s (0 : Int) = 109 := by rw [e]; rfl
    have e1 : ix s (1 : Int) = letter w := by rw [e]; rfl
    have hw7 := letter_nat hw.1
    have h2 : (2 : Int) ≤ s.length := by rw [e]; simp [Sec.str]; omega
    have hat1 : sAt (bs s) 1 = some ((ix s (1 : Int)).toNat : Int) := sAt_ok _ _ (by omega) (by omega)
    have := hw.1
    rw [e0, if_neg (by decide), if_neg (by decide), if_pos (by rfl), hat1, e1, hw7]
    simp (disch := omega) only [bnd_some', true_and, h2, iSub_u, iWrap_w]
    subst e; simp [Sec.how, rHow, Sec.str]; omega
  | room m t =>
    have e0 : ix s (0 : Int) = 114 := by rw [e]; rfl
    have e1 : ix s (1 : Int) = digit m := by rw [e]; rfl
    have hw7 := digit_nat hw.2.1
    have h2 : (2 : Int) ≤ s.length := by rw [e]; simp [Sec.str]; omega
    have hat1 : sAt (bs s) 1 = some ((ix s (1 : Int)).toNat : Int) := sAt_ok _ _ (by omega) (by omega)
    have := hw.2.1
    rw [e0, if_neg (by decide), if_neg (by decide), if_neg (by decide), if_pos (by rfl), hat1, e1, hw7]
    simp (disch := omega) only [bnd_some', true_and, h2, iSub_u, iWrap_w]
    subst e; simp [Sec.how, rHow, Sec.str]; omega
  | epoch a b =>
    have e0 : ix s (0 : Int) = 101 := by rw [e]; rfl
    have e1 : psz (s.drop 1) = a.str.length := by
      have : s.drop 1 = a.str ++ b.str := by rw [e]; rfl
      rw [this]; exact (psz_some (pars_str b.str hw.1)).1
    rw [e0, if_neg (by decide), if_neg (by decide), if_neg (by decide), if_neg (by decide), if_pos (by rfl), hsz, e1]
    have hle : a.str.length + b.str.length + 1 = s.length := by rw [e]; simp [Sec.str]
    have g1 : (1 : Int) ≤ 1 + (a.str.length : Int) := by omega
    have g2 : 1 + (a.str.length : Int) ≤ s.length := by omega
    have g3 : (0 : Int) ≤ 1 + (a.str.length : Int) := by omega
    have g4 : (1 + (a.str.length : Int)).toNat = a.str.length + 1 := by omega
    simp (disch := omega) only [bnd_some', gInt_i, if_true, true_and, and_true, iAdd_w, g1, g2, g3, g4]
    subst e; simp [Sec.how, rHow, Sec.str]
    rw [← List.length_append, List.take_length]; simp
  | new w m =>
    have e0 : ix s (0 : Int) = letter w := by rw [e]; rfl
    obtain ⟨a1, a2, a3, a4, a5⟩ := letter_ne hw.1
    have hwn := letter_nat hw.1
    have hw7 := hw.1
    have c1 : ¬ ((letter w).toNat : Int) = 110 := by omega
    have c2 : ¬ ((letter w).toNat : Int) = 107 := by omega
    have c3 : ¬ ((letter w).toNat : Int) = 109 := by omega
    have c4 : ¬ ((letter w).toNat : Int) = 114 := by omega
    have c5 : ¬ ((letter w).toNat : Int) = 101 := by omega
    rw [e0, if_neg c1, if_neg c2, if_neg c3, if_neg c4, if_neg c5]
    have hm := hw.2.1
    have hm9 := hw.2.2
    by_cases h9 : m ≤ 9
    · have hd := digit_nat h9
      have es : s = [letter w, digit m, 59] := by rw [e]; simp [Sec.str, plain1 h9]
      have i1 : ix s (1 : Int) = digit m := by rw [es]; rfl
      have := lp_l1How L (D + 304) s hl (by omega) L 1 0 1 (by omega) (fun j h1 h2 => by
        have : j = 1 := by rw [es] at h2; simp at h2; omega
        subst this; rw [show ((1 : Nat) : Int) = 1 from rfl, i1]; exact ⟨by omega, by omega⟩) (by omega) (by rw [es]; simp) (by rw [e0]; omega)
      rw [show ((1 : Nat) : Int) = 1 from rfl, show ((0 : Nat) : Int) = 0 from rfl] at this
      rw [this, e0, hwn]
      have el : s.length = 3 := by rw [es]; rfl
      rw [el]
      show some (MV.agg (rHow ⟨1, _, ((0 * 10 + ((ix s (1 : Int)).toNat - 48) : Nat) : Int), [], []⟩), []) = _
      rw [i1, hd]
      simp [Sec.how, rHow]; omega
    · have hd := @digit_nat (m / 10) (by omega)
      have hd' := @digit_nat (m % 10) (by omega)
      have es : s = [letter w, digit (m / 10), digit (m % 10), 59] := by rw [e]; simp [Sec.str, plain2 (n := m) (by omega) hw.2.2]
      have i1 : ix s (1 : Int) = digit (m / 10) := by rw [es]; rfl
      have i2 : ix s (2 : Int) = digit (m % 10) := by rw [es]; rfl
      have := lp_l1How L (D + 304) s hl (by omega) L 1 0 1 (by omega) (fun j h1 h2 => by
        have : j = 1 ∨ j = 2 := by rw [es] at h2; simp at h2; omega
        rcases this with h | h <;> subst h
        · rw [show ((1 : Nat) : Int) = 1 from rfl, i1]; exact ⟨by omega, by omega⟩
        · rw [show ((2 : Nat) : Int) = 2 from rfl, i2]; exact ⟨by omega, by omega⟩) (by omega) (by rw [es]; simp) (by rw [e0]; omega)
      rw [show ((1 : Nat) : Int) = 1 from rfl, show ((0 : Nat) : Int) = 0 from rfl] at this
      rw [this, e0, hwn]
      have el : s.length = 4 := by rw [es]; rfl
      rw [el]
      show some (MV.agg (rHow ⟨1, _, (((0 * 10 + ((ix s (1 : Int)).toNat - 48)) * 10 + ((ix s (2 : Int)).toNat - 48) : Nat) : Int), [], []⟩), []) = _
      rw [i1, i2, hd, hd']
      simp [Sec.how, rHow]; omega
end
end Kw
namespace Kw
open Go Go.Proofs
section
variable (L D : Nat)
theorem t_TreLeaf (w : Int) : ev E L (D + 2) 56 [.int .i64 w] [] = some (.int .i64 (treLeaf w), []) := by
  rw [eq_56]
  by_cases h : isWho w
  · obtain ⟨h1, h2⟩ := id h
    simp (disch := omega) only [t_l1In, h1, h2, bnd_some', gBool_b, bNot_t, br_eq, decide_true, if_false, and_true, Bool.false_eq_true, Int.reduceNeg, iAdd_w]
    simp [treLeaf, h]
  · have h3 : ¬ (0 ≤ w ∧ w ≤ 7) := h
    simp only [t_l1In, h3, bnd_some', gBool_b, bNot_f, br_eq, decide_false, if_true, Int.reduceNeg]
    simp [treLeaf, h]
theorem lp_TreUp : ∀ (i n : Nat) (acc : List Int), i < n → i ≤ 14 → acc.length + i ≤ 100 → LP_76_5 L D n (acc.map rI) acc.length i = some (.sl ((acc ++ ups i).map rI), []) := by
  intro i
  induction i using Nat.strongRecOn with
  | ind i ih =>
    intro n acc hn hi ha
    obtain ⟨n, rfl⟩ : ∃ m, n = m + 1 := ⟨n - 1, by omega⟩
    rw [LP_76_5_succ]
    by_cases h : i = 0
    · have h0 : ¬ (0 : Int) < i := by omega
      rw [show iLt 0 (i : Int) = false from by simpa using h0, br_false', show iEq (acc.length : Int) (nrows (acc.map rI)) = true from by simp, br_true', ups, dif_pos h, List.append_nil]
    · have e : iQuo .i64 (iSub .i64 (i : Int) 1) 2 = (((i - 1) / 2 : Nat) : Int) := by rw [iSub_w (by omega) (by omega), iQuo_pos (by omega) (by omega) (by omega)]; omega
      have hpos : (0 : Int) < i := by omega
      rw [e, show [[MV.int IntKind.i64 (((i - 1) / 2 : Nat) : Int)]] = [rI (((i - 1) / 2 : Nat) : Int)] from rfl]
      simp (disch := omega) only [len_rI, beq_self_eq_true, iEq_dec, iLt_dec, bAnd_r, nrows_map, nrows_nil, nrows_cons, catR_snoc, br_eq, decide_true, decide_false, if_true, if_false, Bool.false_eq_true, Int.reduceEq, okR_I, okR_cons, okR_nil, Bool.and_self, ↓dec_selfI, hpos, fits_true]
      have := ih ((i - 1) / 2) (by omega) n (acc ++ [(((i - 1) / 2 : Nat) : Int)]) (by omega) (by omega) (by simp; omega)
      rw [this]
      conv => rhs; rw [ups, dif_neg h]
      simp
theorem t_TreUp (hL : 1099511627776 ≤ L) (n : Int) : ev E L (D + 2) 76 [.int .i64 n] [] = some (.sl ((treUp n).map rI), []) := by
  rw [eq_76]
  by_cases h : isNode n
  · obtain ⟨h1, h2⟩ := id h
    obtain ⟨k, rfl⟩ : ∃ k : Nat, n = k := ⟨n.toNat, by omega⟩
    have := lp_TreUp L (D + 1) k L [] (by omega) (by omega) (by simp; omega)
    simp only [t_l1In, h1, h2, bnd_some', gBool_b, bNot_t, iEq_dec, nrows_nil, br_eq, decide_true, if_true, if_false, and_true, Bool.false_eq_true, ↓dec_selfI]
    rw [treUp, if_pos h]
    exact this
  · have h3 : ¬ (0 ≤ n ∧ n ≤ 14) := h
    simp only [t_l1In, h3, bnd_some', gBool_b, bNot_f, iEq_dec, nrows_nil, br_eq, decide_false, if_true, ↓dec_selfI]
    simp [treUp, h]
theorem t_TreSide (n : Int) : ev E L (D + 2) 124 [.int .i64 n] [] = some (.int .i64 (treSide n), []) := by
  rw [eq_124]
  by_cases h : 1 ≤ n ∧ n ≤ 14
  · obtain ⟨h1, h2⟩ := id h
    simp (disch := omega) only [t_l1In, h1, h2, bnd_some', gBool_b, bNot_t, iEq_dec, br_eq, decide_true, decide_false, decide_eq_true_eq, if_false, and_true, Bool.false_eq_true, Int.reduceEq, Int.reduceNeg, iRem_pos, iAdd_w, iSub_w]
    rw [treSide, if_pos h]
    split <;> rfl
  · simp only [t_l1In, h, bnd_some', gBool_b, bNot_f, iEq_dec, br_eq, decide_false, decide_eq_true_eq, if_true, if_false, Bool.false_eq_true, Int.reduceEq, Int.reduceNeg]
    simp [treSide, h]
theorem lp_TreMeet : ∀ (f n a b : Nat), f < n → a ≤ 14 → b ≤ 14 → a + b ≤ f → LP_88_3 L D n a b = some (.int .i64 (meetN f a b : Nat), []) := by
  intro f
  induction f with
  | zero =>
    intro n a b hn ha hb hf
    obtain ⟨n, rfl⟩ : ∃ m, n = m + 1 := ⟨n - 1, by omega⟩
    rw [LP_88_3_succ]
    have : a = b := by omega
    subst this
    simp only [bNot_t, iEq_dec, iLt_dec, br_eq, decide_false, decide_eq_true_eq, if_false, Bool.false_eq_true, Int.reduceEq, ↓dec_selfI]; rfl
  | succ f ih =>
    intro n a b hn ha hb hf
    obtain ⟨n, rfl⟩ : ∃ m, n = m + 1 := ⟨n - 1, by omega⟩
    rw [LP_88_3_succ, meetN]
    by_cases h : a = b
    · subst h
      simp only [bNot_t, iEq_dec, iLt_dec, br_eq, decide_false, decide_eq_true_eq, if_true, if_false, Bool.false_eq_true, Int.reduceEq, ↓dec_selfI]
    · have h' : ¬ (a : Int) = b := by omega
      rw [if_neg h]
      by_cases hab : b < a
      · have hab' : (b : Int) < a := by omega
        have e : iQuo .i64 (iSub .i64 (a : Int) 1) 2 = (((a - 1) / 2 : Nat) : Int) := by rw [iSub_w (by omega) (by omega), iQuo_pos (by omega) (by omega) (by omega)]; omega
        simp only [bNot_f, iEq_dec, iLt_dec, br_eq, decide_true, decide_false, if_true, if_false, Bool.false_eq_true, Int.reduceEq, h', hab', e]
        rw [if_pos hab]
        exact ih n _ b (by omega) (by omega) hb (by omega)
      · have hab' : ¬ (b : Int) < a := by omega
        have e : iQuo .i64 (iSub .i64 (b : Int) 1) 2 = (((b - 1) / 2 : Nat) : Int) := by rw [iSub_w (by omega) (by omega), iQuo_pos (by omega) (by omega) (by omega)]; omega
        simp only [bNot_f, iEq_dec, iLt_dec, br_eq, decide_false, if_true, if_false, Bool.false_eq_true, Int.reduceEq, h', hab', e]
        rw [if_neg hab]
        exact ih n a _ (by omega) ha (by omega) (by omega)
theorem t_TreMeet (hL : 1099511627776 ≤ L) (a b : Int) : ev E L (D + 2) 88 [.int .i64 a, .int .i64 b] [] = some (.int .i64 (treMeet a b), []) := by
  rw [eq_88]
  by_cases h : isNode a
  · by_cases h' : isNode b
    · obtain ⟨h1, h2⟩ := id h
      obtain ⟨h3, h4⟩ := id h'
      simp only [t_l1In, h1, h2, h3, h4, bnd_some', gBool_b, bNot_t, bNot_f, br_eq, decide_true, if_true, if_false, and_true, Bool.false_eq_true, Int.reduceNeg]
      rw [treMeet, if_pos ⟨h, h'⟩]
      obtain ⟨x, rfl⟩ : ∃ k : Nat, a = k := ⟨a.toNat, by omega⟩
      obtain ⟨y, rfl⟩ : ∃ k : Nat, b = k := ⟨b.toNat, by omega⟩
      exact lp_TreMeet L (D + 1) 30 L x y (by omega) (by omega) (by omega) (by omega)
    · obtain ⟨h1, h2⟩ := id h
      have h3 : ¬ (0 ≤ b ∧ b ≤ 14) := h'
      simp only [t_l1In, h1, h2, h3, bnd_some', gBool_b, bNot_t, bNot_f, br_eq, decide_true, decide_false, if_true, and_true, Int.reduceNeg]
      simp [treMeet, h']
  · have h3 : ¬ (0 ≤ a ∧ a ≤ 14) := h
    simp only [t_l1In, h3, bnd_some', gBool_b, bNot_t, bNot_f, bNot_dec, br_eq, decide_false, decide_eq_true_eq, if_false, Bool.false_eq_true, Int.reduceNeg]
    simp [treMeet, h]
theorem t_TreNew : ev E L (D + 1) 54 [] [] = some (.agg [.own (treNew.map rS)], []) := by
  rw [eq_54]
  simp (disch := omega) only [iEq_dec, iLe_dec, bAnd_r, br_eq, decide_true, if_true, Int.reduceLE, ↓dec_selfI, fits_true]
  rfl
theorem lp_TreOk (hL : 1099511627776 ≤ L) (ks : List S) (h15 : ks.length = 15) : ∀ (n k : Nat), 15 - k < n → k ≤ 15 → LP_100_4 L (D + 305) n (ks.map rS) k = some (.bool ((ks.drop k).all fun k => decide (k = []) || isKey k), []) := by
  intro n
  induction n with
  | zero => intro k h; omega
  | succ n ih =>
    intro k hn hk
    rw [LP_100_4_succ]
    by_cases h : k < 15
    · have h' : (k : Int) < 15 := by omega
      have e := ih (k + 1) (by omega) (by omega)
      have ha : iAdd .i64 (k : Int) 1 = ((k + 1 : Nat) : Int) := iAdd_n1 k (by omega)
      rw [ix_drop ks k (by omega)]
      simp (disch := omega) only [bnd_some', gBool_b, gStr_s, cellAt_zero, bNot_dec, bNot_bNot, iEq_dec, iLt_dec, sEq_bs, br_eq, decide_true, decide_eq_true_eq, if_true, h', rowZ_S, rS, t_SecOk _ _ hL, ha, e, List.all_cons]
      generalize ix ks (k : Int) = x
      by_cases hx : x = []
      · subst hx; simp
      · rw [if_pos (by simpa using hx)]
        by_cases hs : secOk x = true
        · obtain ⟨t, ht⟩ := Option.isSome_iff_exists.1 (show (sec x).isSome = true from hs)
          rw [if_pos (by simpa using hs), t_l1How _ _ hL x t ht]
          simp only [bnd_some', gInt_i, gStr_s, cellAt_zero, cellAt_succ, gAggN_if, if_true, List.length_cons, List.length_nil, Nat.reduceAdd, rHow]
          have hm : secMade x = t.how := by unfold secMade; rw [ht]
          unfold isKey
          rw [hm]
          by_cases h3 : t.how.op = 3
          · simp [h3, hx]
          · simp [h3, hx]
        · rw [if_neg (by simpa using hs)]
          have : (secMade x).op = 0 := secMade_op.2 (by simpa using hs)
          simp [hx, isKey, this]
    · have h' : ¬ (k : Int) < 15 := by omega
      simp only [bNot_dec, bNot_bNot, iEq_dec, iLt_dec, br_eq, decide_false, decide_eq_true_eq, if_false, Bool.false_eq_true, h']
      rw [List.drop_eq_nil_of_le (by omega)]; rfl
theorem t_TreOk (hL : 1099511627776 ≤ L) (ks : List S) : ev E L (D + 306) 100 [.agg [.sl (ks.map rS)]] [] = some (.bool (treOk ks), []) := by
  rw [eq_100]
  by_cases h : ks.length = 15
  · have h' : (ks.length : Int) = 15 := by omega
    simp only [bNot_t, iEq_dec, nrows_map, br_eq, if_false, Bool.false_eq_true, ↓dec_selfI, h']
    have := lp_TreOk L D hL ks h L 0 (by omega) (by omega)
    rw [show ((0 : Nat) : Int) = 0 from rfl, List.drop_zero] at this
    rw [this]
    simp [treOk, h]
  · have h' : ¬ (ks.length : Int) = 15 := by omega
    simp only [bNot_f, iEq_dec, nrows_map, br_eq, decide_false, if_true, h']
    simp [treOk, h]
end
end Kw
namespace Kw
open Go Go.Proofs
section
variable (L D : Nat)
theorem ups_rng : ∀ (i : Nat), i ≤ 14 → ∀ x ∈ ups i, 0 ≤ x ∧ x ≤ 14 := by
  intro i
  induction i using Nat.strongRecOn with
  | ind i ih =>
    intro hi x hx
    rw [ups] at hx
    split at hx
    · simp at hx
    · rcases List.mem_cons.1 hx with e | hx
      · subst e; omega
      · exact ih _ (by omega) (by omega) x hx
theorem treUp_rng (n : Int) : ∀ x ∈ treUp n, 0 ≤ x ∧ x ≤ 14 := by
  unfold treUp
  split
  · rename_i h; exact ups_rng _ (by have := h.1; have := h.2; omega)
  · simp
theorem ups_len : ∀ (i : Nat), (ups i).length ≤ i := by
  intro i
  induction i using Nat.strongRecOn with
  | ind i ih =>
    rw [ups]
    split
    · simp
    · have := ih ((i - 1) / 2) (by omega)
      simp; omega
theorem treUp_len (n : Int) : (treUp n).length ≤ 14 := by
  unfold treUp
  split
  · rename_i h; have := ups_len n.toNat; have := h.1; have := h.2; omega
  · simp
theorem t_l3Copy (ks : List S) (h : ks.length ≤ 1000000000000) : ev E L (D + 1) 67 [.agg [.sl (ks.map rS)]] [] = some (.agg [.own (ks.map rS)], []) := by
  rw [eq_67]
  simp (disch := omega) only [iEq_dec, bAnd_r, nrows_map, nrows_nil, br_eq, if_true, okR_S, okR_nil, ↓dec_selfI, catR_nil, fits_true]
theorem lp_l3Clear (hL : 1099511627776 ≤ L) (r1 : List Row) (i3 : Int) (up : List Int) (hup : ∀ x ∈ up, 0 ≤ x ∧ x ≤ 14) (hl : up.length ≤ 100) : ∀ (n k : Nat) (ks : List S), up.length - k < n → k ≤ up.length → ks.length = 15 →
    LP_122_5 L D n (ks.map rS) r1 ks.length i3 (up.map rI) k = some (.agg [.own (((up.drop k).foldl (fun ks n => ks.set n.toNat []) ks).map rS)], []) := by
  intro n
  induction n with
  | zero => intro k ks h; omega
  | succ n ih =>
    intro k ks hn hk h15
    rw [LP_122_5_succ]
    by_cases h : k < up.length
    · have h' : (k : Int) < up.length := by omega
      rw [ix_drop up k h]
      obtain ⟨x0, x1⟩ := hup (ix up (k : Int)) (by rw [ix_nat up k h]; exact List.getElem_mem h)
      have h2 : ix up (k : Int) < ks.length := by omega
      simp (disch := omega) only [bnd_some', gInt_i, iEq_dec, iLt_dec, iLe_dec, nrows_map, br_eq, decide_true, if_true, Int.reduceLE, ↓dec_selfI, setRow_S, rowLen_S, rowAt_S, set_S, rowZ_S, c_I0, rowZ_I, h', iAdd_n1]
      have := ih (k + 1) (ks.set (ix up (k : Int)).toNat []) (by omega) (by omega) (by simp; exact h15)
      rw [List.length_set] at this
      rw [this]; rfl
    · have h' : ¬ (k : Int) < up.length := by omega
      simp only [iEq_dec, iLt_dec, iLe_dec, nrows_map, br_eq, decide_false, decide_eq_true_eq, if_true, if_false, Bool.false_eq_true, ↓dec_selfI, h']
      rw [List.drop_eq_nil_of_le (by omega)]; rfl
theorem isWho_leaf {w : Int} (h : isWho w) : treLeaf w = 7 + w := if_pos h
theorem foldset_len (l : List Int) : ∀ ks : List S, (l.foldl (fun ks n => ks.set n.toNat []) ks).length = ks.length := by
  induction l with
  | nil => intro; rfl
  | cons a l ih => intro ks; rw [List.foldl_cons, ih]; simp
theorem clr_len (ks : List S) (w : Int) : (clr ks w).length = ks.length := foldset_len _ _
theorem t_l3Clear (hL : 1099511627776 ≤ L) (ks : List S) (h15 : ks.length = 15) (w : Int) (hw : isWho w) : ev E L (D + 3) 122 [.agg [.own (ks.map rS)], .int .i64 w] [] = some (.agg [.own ((clr ks w).map rS)], []) := by
  rw [eq_122]
  obtain ⟨h1, h2⟩ := id hw
  have e := isWho_leaf hw
  have hlt : (7 + w : Int) < ks.length := by omega
  simp (disch := omega) only [t_TreLeaf, t_TreUp _ _ hL, bnd_some', gInt_i, gSl_r, iEq_dec, iLe_dec, nrows_map, nrows_nil, br_eq, decide_true, if_true, Int.reduceLE, ↓dec_selfI, setRow_S, rowLen_S, rowAt_S, set_S, rowZ_S, e]
  have := lp_l3Clear L (D + 2) hL [] 0 (treUp (7 + w)) (treUp_rng _) (by have := treUp_len (7 + w); omega) L 0 (ks.set (7 + w).toNat []) (by have := treUp_len (7 + w); omega) (by omega) (by simp; exact h15)
  rw [List.length_set] at this
  rw [show ((0 : Nat) : Int) = 0 from rfl] at this
  rw [this, List.drop_zero]
  unfold clr pathOf
  rw [e]; rfl
theorem lp_l3Set (hL : 1099511627776 ≤ L) (r1 : List Row) (i3 : Int) (up : List Int) (hup : ∀ x ∈ up, 0 ≤ x ∧ x ≤ 14) (hl : up.length ≤ 100) : ∀ (n k : Nat) (ks : List S) (s : S), up.length - k < n → k ≤ up.length → ks.length = 15 →
    LP_53_5 L (D + 307) n (ks.map rS) r1 ks.length i3 (bs s) (up.map rI) k = some (.agg [.own ((setGo (up.drop k) (makNext s) ks).map rS)], []) := by
  intro n
  induction n with
  | zero => intro k ks s h; omega
  | succ n ih =>
    intro k ks s hn hk h15
    rw [LP_53_5_succ]
    by_cases h : k < up.length
    · have h' : (k : Int) < up.length := by omega
      rw [ix_drop up k h]
      obtain ⟨x0, x1⟩ := hup (ix up (k : Int)) (by rw [ix_nat up k h]; exact List.getElem_mem h)
      have h2 : ix up (k : Int) < ks.length := by omega
      simp (disch := omega) only [bnd_some', gInt_i, gStr_s, iEq_dec, iLt_dec, iLe_dec, nrows_map, br_eq, decide_true, if_true, Int.reduceLE, ↓dec_selfI, setRow_S, rowLen_S, rowAt_S, set_S, rowZ_S, c_I0, rowZ_I, h', iAdd_n1, t_MakNext _ _ hL, t_MakKey _ _ hL]
      have := ih (k + 1) (ks.set (ix up (k : Int)).toNat (makKey (makNext s))) (makNext s) (by omega) (by omega) (by simp; exact h15)
      rw [List.length_set] at this
      rw [this]; rfl
    · have h' : ¬ (k : Int) < up.length := by omega
      simp only [iEq_dec, iLt_dec, iLe_dec, nrows_map, br_eq, decide_false, decide_eq_true_eq, if_true, if_false, Bool.false_eq_true, ↓dec_selfI, h']
      rw [List.drop_eq_nil_of_le (by omega)]; rfl
theorem setGo_len : ∀ (l : List Int) (s : S) (ks : List S), (setGo l s ks).length = ks.length
  | [], _, _ => rfl
  | _ :: l, s, ks => by rw [setGo, setGo_len l]; simp
theorem t_l3Set (hL : 1099511627776 ≤ L) (ks : List S) (h15 : ks.length = 15) (w : Int) (hw : isWho w) (s : S) : ev E L (D + 308) 53 [.agg [.own (ks.map rS)], .int .i64 w, .str (bs s)] [] = some (.agg [.own ((setK ks w s).map rS)], []) := by
  rw [eq_53]
  obtain ⟨h1, h2⟩ := id hw
  have e := isWho_leaf hw
  have hlt : (7 + w : Int) < ks.length := by omega
  simp (disch := omega) only [t_TreLeaf, t_TreUp _ _ hL, t_MakKey _ _ hL, bnd_some', gInt_i, gStr_s, gSl_r, iEq_dec, iLe_dec, nrows_map, nrows_nil, br_eq, decide_true, if_true, Int.reduceLE, ↓dec_selfI, setRow_S, rowLen_S, rowAt_S, set_S, rowZ_S, e]
  have := lp_l3Set L D hL [] 0 (treUp (7 + w)) (treUp_rng _) (by have := treUp_len (7 + w); omega) L 0 (ks.set (7 + w).toNat (makKey s)) s (by have := treUp_len (7 + w); omega) (by omega) (by simp; exact h15)
  rw [List.length_set] at this
  rw [show ((0 : Nat) : Int) = 0 from rfl] at this
  rw [this, List.drop_zero]
  unfold setK pathOf
  rw [e]; rfl
theorem lp_l4Path (hL : 1099511627776 ≤ L) (up : List Int) (hl : up.length ≤ 100) : ∀ (n k : Nat) (acc : List Own) (s : S), up.length - k < n → k ≤ up.length → acc.length + up.length - k ≤ 1000 →
    LP_55_4 L (D + 307) n (acc.map rO) (bs s) acc.length (up.map rI) k = some (.sl ((acc ++ pathGo (up.drop k) (makNext s)).map rO), []) := by
  intro n
  induction n with
  | zero => intro k acc s h; omega
  | succ n ih =>
    intro k acc s hn hk hb
    rw [LP_55_4_succ]
    by_cases h : k < up.length
    · have h' : (k : Int) < up.length := by omega
      rw [ix_drop up k h]
      simp (disch := omega) only [bnd_some', gInt_i, gStr_s, beq_self_eq_true, iEq_dec, iLt_dec, bAnd_r, nrows_map, nrows_nil, nrows_cons, br_eq, decide_true, if_true, List.length_cons, List.length_nil, Nat.reduceAdd, okR_O, okR_cons, okR_nil, Bool.and_self, ↓dec_selfI, c_I0, rowZ_I, cat1_O, h', iAdd_n1, t_MakNext _ _ hL, fits_true]
      have := ih (k + 1) (acc ++ [⟨ix up (k : Int), makNext s⟩]) (makNext s) (by omega) (by omega) (by simp; omega)
      rw [this]
      simp [pathGo]
    · have h' : ¬ (k : Int) < up.length := by omega
      rw [show iLt (k : Int) (nrows (up.map rI)) = false from by simpa using h', br_false', show iEq (acc.length : Int) (nrows (acc.map rO)) = true from by simp, br_true', List.drop_eq_nil_of_le (by omega)]; simp [pathGo]
theorem t_l4Path (hL : 1099511627776 ≤ L) (n : Int) (s : S) : ev E L (D + 308) 55 [.int .i64 n, .str (bs s)] [] = some (.sl ((secPath n s).map rO), []) := by
  rw [eq_55]
  simp only [t_TreUp _ _ hL, bnd_some', gSl_r, nrows_map, List.length_cons, List.length_nil, Nat.reduceAdd, mk1_O]
  have hh := treUp_len n
  have := lp_l4Path L D hL (treUp n) (by omega) L 0 [⟨n, s⟩] s (by omega) (by omega) (by simp; omega)
  exact this
theorem lp_l4Own (b : Bool) (w e : Int) (kr : List Row) (own : List Own) (i t : ByteArray) (node : Int) (hl : own.length ≤ 1000000) : ∀ (n k : Nat), own.length - k < n → k ≤ own.length →
    LP_107_2 L D n b w kr (own.map rO) e i t node k = some (.str (bs (ownOf (own.drop k) node)), []) := by
  intro n
  induction n with
  | zero => intro k h; omega
  | succ n ih =>
    intro k hn hk
    rw [LP_107_2_succ]
    by_cases h : k < own.length
    · have h' : (k : Int) < own.length := by omega
      rw [ix_drop own k h]
      simp (disch := omega) only [bnd_some', gInt_i, gStr_s, iEq_dec, iLt_dec, nrows_map, br_eq, decide_true, decide_eq_true_eq, if_true, c_O0, c_O1, rowZ_O, h', iAdd_n1, ih (k + 1) (by omega) (by omega)]
      unfold ownOf
      rw [List.find?_cons]
      by_cases hx : (ix own (k : Int)).node = node
      · have hb : ((ix own (k : Int)).node == node) = true := by simpa using hx
        simp [hx]
      · have hb : ((ix own (k : Int)).node == node) = false := by simpa using hx
        simp [hx, hb]
    · have h' : ¬ (k : Int) < own.length := by omega
      simp only [iEq_dec, iLt_dec, nrows_map, br_eq, decide_false, decide_eq_true_eq, if_false, Bool.false_eq_true, h']
      rw [List.drop_eq_nil_of_le (by omega)]; rfl
theorem t_l4Own (hL : 1099511627776 ≤ L) (b : Bool) (w e : Int) (kr : List Row) (own : List Own) (i t : ByteArray) (node : Int) (hl : own.length ≤ 1000000) : ev E L (D + 1) 107 [.agg [.bool b, .int .i64 w, .sl kr, .sl (own.map rO), .int .i64 e, .str i, .str t], .int .i64 node] [] = some (.str (bs (ownOf own node)), []) := by
  rw [eq_107]
  exact lp_l4Own L D b w e kr own i t node hl L 0 (by omega) (by omega)
theorem lp_l4In (l : List Int) (x : Int) (hl : l.length ≤ 1000000) : ∀ (n k : Nat), l.length - k < n → k ≤ l.length →
    LP_115_2 L D n (l.map rI) x k = some (.bool (decide (x ∈ l.drop k)), []) := by
  intro n
  induction n with
  | zero => intro k h; omega
  | succ n ih =>
    intro k hn hk
    rw [LP_115_2_succ]
    by_cases h : k < l.length
    · have h' : (k : Int) < l.length := by omega
      rw [ix_drop l k h]
      simp (disch := omega) only [bnd_some', gInt_i, iEq_dec, iLt_dec, nrows_map, br_eq, decide_true, decide_eq_true_eq, if_true, c_I0, rowZ_I, h', iAdd_n1, ih (k + 1) (by omega) (by omega)]
      by_cases hx : ix l (k : Int) = x
      · simp [hx]
      · simp [hx, Ne.symm hx]
    · have h' : ¬ (k : Int) < l.length := by omega
      simp only [iEq_dec, iLt_dec, nrows_map, br_eq, decide_false, decide_eq_true_eq, if_false, Bool.false_eq_true, h']
      rw [List.drop_eq_nil_of_le (by omega)]; simp
theorem t_l4In (hL : 1099511627776 ≤ L) (l : List Int) (x : Int) (hl : l.length ≤ 1000000) : ev E L (D + 1) 115 [.sl (l.map rI), .int .i64 x] [] = some (.bool (decide (x ∈ l)), []) := by
  rw [eq_115]
  exact lp_l4In L D l x hl L 0 (by omega) (by omega)
end
end Kw
namespace Kw
open Go Go.Proofs
section
variable (L D : Nat)
theorem treLeaf_rng {w : Int} (h : isWho w) : 7 ≤ treLeaf w ∧ treLeaf w ≤ 14 := by rw [isWho_leaf h]; have := h.1; have := h.2; omega
theorem pathOf_rng {w : Int} (h : isWho w) : ∀ x ∈ pathOf w, 0 ≤ x ∧ x ≤ 14 := by
  intro x hx
  rcases List.mem_cons.1 hx with e | hx
  · subst e; have := treLeaf_rng h; omega
  · exact treUp_rng _ x hx
theorem pathOf_len (w : Int) : (pathOf w).length ≤ 15 := by have := treUp_len (treLeaf w); simp [pathOf]; omega
theorem if_true_bool (p : Prop) [Decidable p] (x y : Bool) : (if p then some ((MV.bool x, []) : Res) else some (.bool y, [])) = some (.bool (if p then x else y), []) := by split <;> rfl
theorem lp_l4Fits (hL : 1099511627776 ≤ L) (w e : Int) (hw : isWho w) (ks : List S) (h15 : ks.length = 15) (own : List Own) (i t : S) (hl : own.length ≤ 1000000) (b : Bool) : ∀ (n k : Nat), own.length - k < n → k ≤ own.length →
    LP_101_3 L (D + 307) n b w (ks.map rS) (own.map rO) e (bs i) (bs t) (treLeaf w) k = some (.bool ((List.range' k (own.length - k)).all (fitsAt ⟨true, w, ks, own, e, i, t⟩)), []) := by
  intro n
  induction n with
  | zero => intro k h; omega
  | succ n ih =>
    intro k hn hk
    rw [LP_101_3_succ]
    by_cases h : k < own.length
    case neg =>
      have h' : ¬ (k : Int) < own.length := by omega
      simp only [bNot_dec, bNot_bNot, iEq_dec, iLt_dec, iLe_dec, bAnd_dec, bAnd_t, nrows_map, br_eq, decide_true, decide_false, decide_eq_true_eq, if_false, Bool.false_eq_true, Int.reduceLE, okR_O, h']
      rw [show own.length - k = 0 by omega]; rfl
    have h' : (k : Int) < own.length := by omega
    have hle : (k : Int) ≤ own.length := by omega
    have hk0 : (0 : Int) ≤ (k : Int) := by omega
    have e1 := ih (k + 1) (by omega) (by omega)
    rw [show own.length - k = (own.length - (k + 1)) + 1 by omega, List.range'_succ, List.all_cons]
    have hX : fitsAt ⟨true, w, ks, own, e, i, t⟩ k = (decide ((ix own k).node ∈ pathOf w) && (secOk (ix own k).sec && (decide (ix ks (ix own k).node ≠ []) && (decide (ix ks (ix own k).node = makKey (ix own k).sec) && decide (ownOf (own.take k) (ix own k).node = []))))) := rfl
    rw [hX]
    simp (disch := omega) only [bnd_some', br_true', gBool_b, gInt_i, gStr_s, gSl_r, bNot_dec, bNot_bNot, br_bNot, iEq_dec, iLt_dec, iLe_dec, bAnd_dec, bAnd_t, nrows_map, decide_true, Int.reduceLE, Int.toNat_natCast, okR_O, c_O0, c_O1, sub_O, rowZ_O, h', iAdd_n1, t_TreUp _ _ hL, t_SecOk _ _ hL]
    generalize ix own (k : Int) = o
    have hup := t_l4In L (D + 306) hL (treUp (treLeaf w)) o.node (by have := treUp_len (treLeaf w); omega)
    have hmem : o.node ∈ pathOf w ↔ o.node = treLeaf w ∨ o.node ∈ treUp (treLeaf w) := List.mem_cons
    by_cases hm : o.node ∈ pathOf w
    case neg =>
      have h1 : ¬ o.node = treLeaf w := fun e => hm (hmem.2 (.inl e))
      have h2 : ¬ o.node ∈ treUp (treLeaf w) := fun e => hm (hmem.2 (.inr e))
      simp only [bnd_some', br_true', br_false', gBool_b, decide_true, decide_false, not_false_eq_true, h1, hup, h2, hm]
      simp
    obtain ⟨x0, x1⟩ := pathOf_rng hw _ hm
    have hlt : o.node < ks.length := by omega
    have hown := t_l4Own L (D + 306) hL false 0 0 [] (own.take k) (bs []) (bs []) o.node (by simp; omega)
    have key : ∀ X : Option Res, br (decide ¬o.node = treLeaf w) (bnd (ev E L (D + 307) 115 [.sl ((treUp (treLeaf w)).map rI), .int .i64 o.node] []) fun r => bnd (gBool r.1) fun b => br b X (some (.bool false, []))) X = X := fun X => by
      by_cases h1 : o.node = treLeaf w
      · simp only [br_false', decide_false, not_true_eq_false, h1]
      · have h2 : o.node ∈ treUp (treLeaf w) := (hmem.1 hm).resolve_left h1
        simp only [bnd_some', br_true', gBool_b, decide_true, not_false_eq_true, h1, hup, h2]
    rw [key]
    by_cases hs : secOk o.sec = true
    case neg => simp only [br_eq, decide_true, decide_eq_true_eq, if_false, Bool.false_eq_true, hs, hm]; simp [hs]
    by_cases hk1 : ix ks o.node = []
    · simp (disch := omega) only [bnd_some', gStr_s, sEq_bs, br_eq, decide_eq_true_eq, if_true, ↓dec_selfS, c_S0, rowZ_S, hs, hk1]; simp
    by_cases hk2 : ix ks o.node = makKey o.sec
    case neg =>
      simp (disch := omega) only [bnd_some', gStr_s, sEq_bs, br_eq, decide_false, decide_eq_true_eq, if_true, if_false, Bool.false_eq_true, c_S0, rowZ_S, hs, hk1, t_MakKey _ _ hL, hk2]; simp
    have hk3 : ¬ makKey o.sec = [] := hk2 ▸ hk1
    by_cases ho : ownOf (own.take k) o.node = []
    · simp (disch := omega) only [bnd_some', gStr_s, sEq_bs, br_eq, decide_true, decide_false, if_true, if_false, and_true, Bool.false_eq_true, Bool.and_self, ↓dec_selfS, c_S0, rowZ_S, hs, t_MakKey _ _ hL, hk2, hk3, hle, hk0, List.drop_zero, Int.toNat_zero, hown, ho, e1, hm]
      simp [hk3]
    · simp (disch := omega) only [bnd_some', gStr_s, sEq_bs, br_eq, decide_true, decide_false, if_true, if_false, and_true, Bool.false_eq_true, ↓dec_selfS, c_S0, rowZ_S, hs, t_MakKey _ _ hL, hk2, hk3, hle, hk0, List.drop_zero, Int.toNat_zero, hown, ho, hm]
      simp
theorem t_l4Fits (hL : 1099511627776 ≤ L) (b : Bool) (w e : Int) (hw : isWho w) (ks : List S) (h15 : ks.length = 15) (own : List Own) (i t : S) (hl : own.length ≤ 1000000) : ev E L (D + 308) 101 [.agg [.bool b, .int .i64 w, .sl (ks.map rS), .sl (own.map rO), .int .i64 e, .str (bs i), .str (bs t)]] [] = some (.bool (fitsAll ⟨true, w, ks, own, e, i, t⟩), []) := by
  rw [eq_101]
  simp only [t_TreLeaf, bnd_some', gInt_i]
  have := lp_l4Fits L D hL w e hw ks h15 own i t hl b L 0 (by omega) (by omega)
  rw [show ((0 : Nat) : Int) = 0 from rfl] at this
  rw [this]
  unfold fitsAll
  rw [List.range_eq_range']; rfl
theorem lp_l4All (hL : 1099511627776 ≤ L) (w e : Int) (hw : isWho w) (ks : List S) (h15 : ks.length = 15) (own : List Own) (i t : S) (hl : own.length ≤ 1000000) (b : Bool) (path : List Int) (hp : ∀ x ∈ path, 0 ≤ x ∧ x ≤ 14) (hpl : path.length ≤ 100) : ∀ (n k : Nat), path.length - k < n → k ≤ path.length →
    LP_102_4 L (D + 1) n (path.map rI) b w (ks.map rS) (own.map rO) e (bs i) (bs t) (treLeaf w) path.length k = some (.bool (((path.drop k).all fun n => decide (ix ks n = []) || decide (ownOf own n ≠ [])) && decide (ix ks (treLeaf w) ≠ [])), []) := by
  intro n
  induction n with
  | zero => intro k h; omega
  | succ n ih =>
    intro k hn hk
    rw [LP_102_4_succ]
    obtain ⟨g1, g2⟩ := treLeaf_rng hw
    have glt : treLeaf w < ks.length := by omega
    by_cases h : k < path.length
    case neg =>
      have h' : ¬ (k : Int) < path.length := by omega
      simp (disch := omega) only [bnd_some', gStr_s, bNot_dec, iEq_dec, iLt_dec, sEq_bs, nrows_map, br_eq, decide_false, if_true, if_false, Bool.false_eq_true, ↓dec_selfI, c_S0, rowZ_S, h']
      rw [List.drop_eq_nil_of_le (by omega)]; simp
    have h' : (k : Int) < path.length := by omega
    have e1 := ih (k + 1) (by omega) (by omega)
    rw [ix_drop path k h, List.all_cons]
    obtain ⟨x0, x1⟩ := hp (ix path (k : Int)) (by rw [ix_nat path k h]; exact List.getElem_mem h)
    have hlt : ix path (k : Int) < ks.length := by omega
    have hown := t_l4Own L D hL b w e (ks.map rS) own (bs i) (bs t) (ix path (k : Int)) hl
    by_cases hk1 : ix ks (ix path (k : Int)) = []
    · simp (disch := omega) only [bnd_some', gInt_i, gStr_s, bNot_t, bNot_dec, iEq_dec, iLt_dec, sEq_bs, nrows_map, br_eq, decide_true, if_true, if_false, Bool.false_eq_true, ↓dec_selfI, ↓dec_selfS, c_S0, rowZ_S, c_I0, rowAt_I, rowZ_I, h', iAdd_n1, hk1, e1]; simp
    · by_cases ho : ownOf own (ix path (k : Int)) = []
      · simp (disch := omega) only [bnd_some', gInt_i, gStr_s, bNot_f, bNot_dec, iEq_dec, iLt_dec, sEq_bs, nrows_map, br_eq, decide_true, decide_false, if_true, ↓dec_selfI, ↓dec_selfS, c_S0, rowZ_S, c_I0, rowAt_I, rowZ_I, h', iAdd_n1, hk1, hown, ho]; simp
      · simp (disch := omega) only [bnd_some', gInt_i, gStr_s, bNot_f, bNot_dec, iEq_dec, iLt_dec, sEq_bs, nrows_map, br_eq, decide_true, decide_false, if_true, if_false, Bool.false_eq_true, ↓dec_selfI, c_S0, rowZ_S, c_I0, rowAt_I, rowZ_I, h', iAdd_n1, hk1, hown, ho, e1]; simp [ho]
theorem t_l4All (hL : 1099511627776 ≤ L) (b : Bool) (w e : Int) (hw : isWho w) (ks : List S) (h15 : ks.length = 15) (own : List Own) (i t : S) (hl : own.length ≤ 1000000) : ev E L (D + 3) 102 [.agg [.bool b, .int .i64 w, .sl (ks.map rS), .sl (own.map rO), .int .i64 e, .str (bs i), .str (bs t)]] [] = some (.bool (hasAll ⟨true, w, ks, own, e, i, t⟩), []) := by
  rw [eq_102]
  have hlen := treUp_len (treLeaf w)
  simp (disch := omega) only [t_TreLeaf, t_TreUp _ _ hL, bnd_some', gInt_i, gSl_r, iEq_dec, bAnd_r, nrows_map, catR_map, br_eq, if_true, List.length_cons, List.length_nil, Nat.reduceAdd, okR_I, ↓dec_selfI, mk1_I, fits_true]
  have := lp_l4All L (D + 1) hL w e hw ks h15 own i t hl b (pathOf w) (pathOf_rng hw) (by have := pathOf_len w; omega) L 0 (by have := pathOf_len w; omega) (by omega)
  rw [show ((0 : Nat) : Int) = 0 from rfl] at this
  exact this
theorem len0 {A : Type} (l : List A) : ((l.length : Int) = 0) ↔ l = [] := by rw [show ((l.length : Int) = 0) ↔ l.length = 0 by omega]; exact List.length_eq_zero_iff
theorem treOk_len {ks : List S} (h : treOk ks = true) : ks.length = 15 := by
  unfold treOk at h
  simp only [Bool.and_eq_true, decide_eq_true_eq] at h
  exact h.1
theorem t_MemOk (hL : 1099511627776 ≤ L) (b : Bool) (w e : Int) (ks : List S) (own : List Own) (i t : S) (hl : own.length ≤ 1000000) : ev E L (D + 309) 79 [.agg [.bool b, .int .i64 w, .sl (ks.map rS), .sl (own.map rO), .int .i64 e, .str (bs i), .str (bs t)]] [] = some (.bool (memOk ⟨b, w, ks, own, e, i, t⟩), []) := by
  rw [eq_79]
  unfold memOk
  cases b with
  | false =>
    simp only [bNot_f, iEq_dec, iLe_dec, sLen_bs, sEq_bs, nrows_map, br_eq, decide_eq_true_eq, if_true, len0]
    by_cases h1 : w = 0
    case neg => simp [h1]
    by_cases h2 : ks = []
    case neg => simp [h2]
    by_cases h3 : own = []
    case neg => simp [h3]
    by_cases h4 : e = 0
    case neg => simp [h4]
    by_cases h5 : i = []
    case neg => simp [h5]
    simp [h1, h2, h3, h4, h5]
  | true =>
    simp only [bnd_some', gBool_b, bNot_t, iEq_dec, iLe_dec, sLen_bs, sEq_bs, nrows_map, br_eq, decide_eq_true_eq, if_false, Bool.false_eq_true, Bool.true_eq_false, t_l1In]
    by_cases h1 : isWho w
    case neg =>
      have : ¬ (0 ≤ w ∧ w ≤ 7) := h1
      simp only [if_false, this]; simp [h1]
    obtain ⟨h1a, h1b⟩ := id h1
    by_cases h2 : treOk ks = true
    case neg => simp only [bnd_some', gBool_b, if_true, if_false, and_true, Bool.false_eq_true, h1a, h1b, t_TreOk _ _ hL, h2]; simp [h2]
    have h15 := treOk_len h2
    by_cases h3 : fitsAll ⟨true, w, ks, own, e, i, t⟩ = true
    case neg => simp only [bnd_some', gBool_b, if_true, if_false, and_true, Bool.false_eq_true, h1a, h1b, t_TreOk _ _ hL, h2, t_l4Fits _ _ hL true w e h1 ks h15 own i t hl, h3]; simp [h3]
    by_cases h4 : hasAll ⟨true, w, ks, own, e, i, t⟩ = true
    case neg => simp only [bnd_some', gBool_b, if_true, if_false, and_true, Bool.false_eq_true, h1a, h1b, t_TreOk _ _ hL, h2, t_l4Fits _ _ hL true w e h1 ks h15 own i t hl, h3, t_l4All _ _ hL true w e h1 ks h15 own i t hl, h4]; simp [h4]
    by_cases h5 : 0 ≤ e ∧ e ≤ 12
    case neg => simp only [bnd_some', gBool_b, decide_false, if_true, if_false, and_true, h1a, h1b, t_TreOk _ _ hL, h2, t_l4Fits _ _ hL true w e h1 ks h15 own i t hl, h3, t_l4All _ _ hL true w e h1 ks h15 own i t hl, h4, h5]; simp [h5]
    obtain ⟨h5a, h5b⟩ := id h5
    by_cases h6 : secOk i = true
    case neg => simp only [bnd_some', gBool_b, decide_true, if_true, if_false, and_true, Bool.false_eq_true, h1a, h1b, t_TreOk _ _ hL, h2, t_l4Fits _ _ hL true w e h1 ks h15 own i t hl, h3, t_l4All _ _ hL true w e h1 ks h15 own i t hl, h4, h5a, h5b, t_SecOk _ _ hL, h6]; simp [h6]
    simp only [bnd_some', gBool_b, decide_true, if_true, and_true, h1a, h1b, t_TreOk _ _ hL, h2, t_l4Fits _ _ hL true w e h1 ks h15 own i t hl, h3, t_l4All _ _ hL true w e h1 ks h15 own i t hl, h4, h5a, h5b, t_SecOk _ _ hL, h6]
    simp [h1]; omega
end
end Kw
namespace Kw
open Go Go.Proofs
section
variable (L D : Nat)
theorem isKey_false {s : S} (h : ¬ secOk s = true) : isKey s = false := by
  have : (secMade s).op = 0 := secMade_op.2 (by simpa using h)
  simp [isKey, this]
theorem t_l4Key (hL : 1099511627776 ≤ L) (s : S) : ev E L (D + 306) 103 [.str (bs s)] [] = some (.bool (isKey s), []) := by
  rw [eq_103]
  by_cases hs : secOk s = true
  · obtain ⟨t, ht⟩ := Option.isSome_iff_exists.1 (show (sec s).isSome = true from hs)
    simp only [bnd_some', br_true', gBool_b, gInt_i, gStr_s, cellAt_zero, cellAt_succ, iEq_dec, gAggN_if, if_true, List.length_cons, List.length_nil, Nat.reduceAdd, t_SecOk _ _ hL, hs, t_l1How _ _ hL s t ht, rHow]
    unfold isKey secMade
    rw [ht]
  · simp only [bnd_some', br_false', gBool_b, iEq_dec, t_SecOk _ _ hL, hs]
    rw [isKey_false hs]
theorem coverN_rng (ks : List S) : ∀ (f n : Nat), n ≤ 14 → ∀ x ∈ coverN f ks n, 0 ≤ x ∧ x ≤ 14
  | 0, _, _, x, hx => by simp [coverN] at hx
  | f + 1, n, hn, x, hx => by
    rw [coverN] at hx
    split at hx
    · simp at hx; subst hx; omega
    split at hx
    · simp at hx
    · rcases List.mem_append.1 hx with h | h
      · exact coverN_rng ks f _ (by omega) x h
      · exact coverN_rng ks f _ (by omega) x h
theorem coverN_len (ks : List S) : ∀ (f n : Nat), (coverN f ks n).length ≤ 2 ^ f
  | 0, _ => by simp [coverN]
  | f + 1, n => by
    rw [coverN]
    have hp : 1 ≤ 2 ^ (f + 1) := Nat.pow_pos (by omega)
    split
    · simpa using hp
    split
    · simp
    · have h1 := coverN_len ks f (2 * n + 1)
      have h2 := coverN_len ks f (2 * n + 2)
      rw [List.length_append, Nat.pow_succ]; omega
theorem lp_l3Cover (ks : List S) (h15 : ks.length = 15) : ∀ (f n D : Nat), n ≤ 14 → 16 ≤ (n + 1) * 2 ^ f → f ≤ 10 → ev E L (D + f) 123 [.agg [.sl (ks.map rS)], .int .i64 n] [] = some (.own ((coverN f ks n).map rI), [])
  | 0, n, D, h, h', _ => by simp at h'; omega
  | f + 1, n, D, h, h', hf => by
    rw [show D + (f + 1) = (D + f) + 1 by omega, eq_123, coverN]
    by_cases hk : ix ks (n : Int) = []
    · rw [if_neg (by simpa using hk)]
      by_cases h7 : 7 ≤ n
      · have h7' : (7 : Int) ≤ n := by omega
        simp (disch := omega) only [bnd_some', br_true', br_false', gStr_s, bNot_t, iEq_dec, iLe_dec, sEq_bs, nrows_nil, decide_true, ↓dec_selfI, ↓dec_selfS, c_S0, rowZ_S, hk, h7']
        rw [if_pos h7]; rfl
      · have h7' : ¬ (7 : Int) ≤ n := by omega
        rw [if_neg h7]
        have e1 : iAdd .i64 (iMul .i64 2 (n : Int)) 1 = ((2 * n + 1 : Nat) : Int) := by rw [iMul_w (by omega) (by omega), iAdd_w (by omega) (by omega)]; omega
        have e2 : iAdd .i64 (iMul .i64 2 (n : Int)) 2 = ((2 * n + 2 : Nat) : Int) := by rw [iMul_w (by omega) (by omega), iAdd_w (by omega) (by omega)]; omega
        rw [Nat.pow_succ] at h'
        have p1 : 16 ≤ (2 * n + 1 + 1) * 2 ^ f := by rw [show 2 * n + 1 + 1 = (n + 1) * 2 by omega, Nat.mul_assoc, Nat.mul_comm 2]; exact h'
        have p2 : 16 ≤ (2 * n + 2 + 1) * 2 ^ f := Nat.le_trans p1 (Nat.mul_le_mul_right _ (by omega))
        have l1 := coverN_len ks f (2 * n + 1)
        have l2 := coverN_len ks f (2 * n + 2)
        have l3 : 2 ^ f ≤ 2 ^ 10 := Nat.pow_le_pow_right (by omega) (by omega)
        simp (disch := omega) only [bnd_some', br_true', br_false', gStr_s, gOwn_r, bNot_t, iEq_dec, iLe_dec, bAnd_r, sEq_bs, nrows_map, catR_map, decide_false, okR_I, ↓dec_selfI, ↓dec_selfS, c_S0, rowZ_S, hk, h7', e1, e2, lp_l3Cover ks h15 f (2 * n + 1) D (by omega) p1 (by omega), lp_l3Cover ks h15 f (2 * n + 2) D (by omega) p2 (by omega), fits_true]
    · rw [if_pos (by simpa using hk)]
      simp (disch := omega) only [bnd_some', br_true', gStr_s, bNot_f, iEq_dec, sEq_bs, nrows_map, decide_false, List.length_cons, List.length_nil, Nat.reduceAdd, ↓dec_selfI, c_S0, rowZ_S, hk, mk1_I]
theorem t_l3Cover (ks : List S) (h15 : ks.length = 15) (n : Int) (h : isNode n) : ev E L (D + 5) 123 [.agg [.sl (ks.map rS)], .int .i64 n] [] = some (.own ((cover ks n).map rI), []) := by
  obtain ⟨h1, h2⟩ := h
  obtain ⟨k, rfl⟩ : ∃ k : Nat, n = k := ⟨n.toNat, by omega⟩
  exact lp_l3Cover L ks h15 5 k D (by omega) (by omega) (by omega)
theorem t_l4May (hL : 1099511627776 ≤ L) (b : Bool) (w e : Int) (ks : List S) (h15 : b = true → ks.length = 15) (own : List Own) (i t : S) (add remove : Int) (leaf key : S) : ev E L (D + 307) 81 [.agg [.bool b, .int .i64 w, .sl (ks.map rS), .sl (own.map rO), .int .i64 e, .str (bs i), .str (bs t)], .int .i64 add, .int .i64 remove, .str (bs leaf), .str (bs key)] [] = some (.bool (may ⟨b, w, ks, own, e, i, t⟩ add remove leaf key), []) := by
  rw [eq_81]
  unfold may
  cases b with
  | false => simp only [br_false', bNot_t, bNot_f]; simp
  | true =>
    have h15 := h15 rfl
    by_cases h1 : 12 ≤ e
    · have : ¬ e < 12 := by omega
      simp only [br_true', br_false', bNot_t, bNot_f, iLe_dec, decide_true, h1]; simp [this]
    have h1' : e < 12 := by omega
    by_cases h2 : -1 ≤ add ∧ add ≤ 7
    case neg =>
      have hs : ¬ (e < 12 ∧ someone add w ∧ someone remove w) := fun ⟨_, ⟨x, y, _⟩, _⟩ => h2 ⟨x, y⟩
      simp only [bnd_some', br_true', br_false', gBool_b, bNot_t, bNot_f, iLe_dec, decide_false, Int.reduceNeg, h1, t_l1In, h2]; simp [hs]
    obtain ⟨h2a, h2b⟩ := id h2
    by_cases h3 : -1 ≤ remove ∧ remove ≤ 7
    case neg =>
      have hs : ¬ (e < 12 ∧ someone add w ∧ someone remove w) := fun ⟨_, _, ⟨x, y, _⟩⟩ => h3 ⟨x, y⟩
      simp only [bnd_some', br_true', br_false', gBool_b, bNot_t, bNot_f, iLe_dec, decide_true, decide_false, and_true, Int.reduceNeg, h1, t_l1In, h2a, h2b, h3]; simp [hs]
    obtain ⟨h3a, h3b⟩ := id h3
    by_cases h4 : add = w
    · have hs : ¬ (e < 12 ∧ someone add w ∧ someone remove w) := fun ⟨_, ⟨_, _, z⟩, _⟩ => z h4
      have d1 : decide (-1 ≤ add ∧ add ≤ 7) = true := decide_eq_true h2
      have d2 : decide (-1 ≤ remove ∧ remove ≤ 7) = true := decide_eq_true h3
      have d3 : decide (add = w) = true := decide_eq_true h4
      simp only [hs]
      simp only [bnd_some', br_bNot, bNot_bNot, br_true', br_false', gBool_b, iLe_dec, h1, decide_false, t_l1In, d1, d2, iEq_dec, d3, Bool.false_and, Bool.and_false]
    by_cases h5 : remove = w
    · have hs : ¬ (e < 12 ∧ someone add w ∧ someone remove w) := fun ⟨_, _, ⟨_, _, z⟩⟩ => z h5
      have d1 : decide (-1 ≤ add ∧ add ≤ 7) = true := decide_eq_true h2
      have d2 : decide (-1 ≤ remove ∧ remove ≤ 7) = true := decide_eq_true h3
      have d3 : decide (remove = w) = true := decide_eq_true h5
      have d4 : decide (add = w) = false := decide_eq_false h4
      simp only [hs]
      simp only [bnd_some', br_bNot, bNot_bNot, br_true', br_false', gBool_b, iLe_dec, h1, decide_false, t_l1In, d1, d2, iEq_dec, d3, d4, Bool.false_and, Bool.and_false]
    have hs : (e < 12 ∧ someone add w ∧ someone remove w) := ⟨h1', ⟨h2a, h2b, h4⟩, ⟨h3a, h3b, h5⟩⟩
    have hadd : 0 ≤ add → 0 ≤ treLeaf add ∧ treLeaf add < ks.length := fun h => by
      have := treLeaf_rng (w := add) ⟨h, h2b⟩; omega
    have hrem : 0 ≤ remove → 0 ≤ treLeaf remove ∧ treLeaf remove < ks.length := fun h => by
      have := treLeaf_rng (w := remove) ⟨h, h3b⟩; omega
    simp only [hs, Bool.true_and]
    unfold changes twoKeys
    by_cases h6 : 0 ≤ remove
    · obtain ⟨r1, r2⟩ := hrem h6
      have h6' : ¬ remove < 0 := by omega
      by_cases h7 : ix ks (treLeaf remove) = []
      · simp (disch := omega) only [bnd_some', br_true', br_false', gBool_b, gInt_i, gStr_s, bNot_t, bNot_f, iEq_dec, iLe_dec, sEq_bs, decide_true, decide_false, and_true, Int.reduceNeg, ↓dec_selfS, c_S0, rowZ_S, h1, t_l1In, h2a, h2b, h3a, h3b, h4, h5, h6, t_TreLeaf, h7, h6', hasLeaf]
        simp
      by_cases h8 : add < 0
      · by_cases l0 : leaf = []
        · simp (disch := omega) only [bnd_some', br_true', br_false', gBool_b, gInt_i, gStr_s, bNot_t, bNot_f, iEq_dec, iLt_dec, iLe_dec, sEq_bs, decide_true, decide_false, if_true, true_and, and_true, Int.reduceNeg, ↓dec_selfS, c_S0, rowZ_S, h1, t_l1In, h2a, h2b, h3a, h3b, h4, h5, h6, t_TreLeaf, h7, h6', hasLeaf, h8, l0]
          simp [h7]
        · simp (disch := omega) only [bnd_some', br_true', br_false', gBool_b, gInt_i, gStr_s, bNot_t, bNot_f, iEq_dec, iLt_dec, iLe_dec, sEq_bs, decide_true, decide_false, if_true, and_true, false_and, Int.reduceNeg, c_S0, rowZ_S, h1, t_l1In, h2a, h2b, h3a, h3b, h4, h5, h6, t_TreLeaf, h7, h6', hasLeaf, h8, l0]
          simp [h7]
      obtain ⟨a1, a2⟩ := hadd (by omega)
      by_cases h9 : ix ks (treLeaf add) = []
      · simp (disch := omega) only [bnd_some', br_true', br_false', gBool_b, gInt_i, gStr_s, bNot_t, bNot_f, bNot_dec, iEq_dec, iLt_dec, iLe_dec, sEq_bs, decide_true, decide_false, if_false, and_true, Int.reduceNeg, ↓dec_selfS, c_S0, rowZ_S, h1, t_l1In, h2a, h2b, h3a, h3b, h4, h5, h6, t_TreLeaf, h7, h6', hasLeaf, h8, h9, t_l4Key _ _ hL]
        cases isKey leaf <;> cases isKey key <;> simp [br, h7]
      by_cases h10 : add = remove
      · simp (disch := omega) only [bnd_some', br_true', br_false', gBool_b, gInt_i, gStr_s, bNot_t, bNot_f, bNot_dec, iEq_dec, iLt_dec, iLe_dec, sEq_bs, decide_true, decide_false, if_false, and_true, Int.reduceNeg, c_S0, rowZ_S, h1, t_l1In, h2a, h2b, h3a, h3b, h4, h5, h6, t_TreLeaf, h7, h6', hasLeaf, h8, h9, t_l4Key _ _ hL, decide_eq_true h10]
        cases isKey leaf <;> cases isKey key <;> simp [br, h7]
      · simp (disch := omega) only [bnd_some', br_true', br_false', gBool_b, gInt_i, gStr_s, bNot_t, bNot_f, iEq_dec, iLt_dec, iLe_dec, sEq_bs, decide_true, decide_false, if_false, and_true, Int.reduceNeg, c_S0, rowZ_S, h1, t_l1In, h2a, h2b, h3a, h3b, h4, h5, h6, t_TreLeaf, h7, h6', hasLeaf, h8, h9, h10]
        simp [h7, h9]
    · have h6' : remove < 0 := by omega
      by_cases h8 : add < 0
      · by_cases l0 : leaf = []
        · simp (disch := omega) only [bnd_some', br_true', br_false', gBool_b, bNot_t, bNot_f, iEq_dec, iLt_dec, iLe_dec, sEq_bs, decide_true, decide_false, if_true, true_and, and_true, Int.reduceNeg, ↓dec_selfS, h1, t_l1In, h2a, h2b, h3a, h3b, h4, h5, h6, h6', hasLeaf, h8, l0]
          simp
        · simp (disch := omega) only [bnd_some', br_true', br_false', gBool_b, bNot_t, bNot_f, iEq_dec, iLt_dec, iLe_dec, sEq_bs, decide_true, decide_false, if_true, and_true, false_and, Int.reduceNeg, h1, t_l1In, h2a, h2b, h3a, h3b, h4, h5, h6, h6', hasLeaf, h8, l0]
          simp
      obtain ⟨a1, a2⟩ := hadd (by omega)
      have h10 : ¬ add = remove := by omega
      by_cases h9 : ix ks (treLeaf add) = []
      · simp (disch := omega) only [bnd_some', br_true', br_false', gBool_b, gInt_i, gStr_s, bNot_t, bNot_f, bNot_dec, iEq_dec, iLt_dec, iLe_dec, sEq_bs, decide_true, decide_false, if_false, and_true, Int.reduceNeg, ↓dec_selfS, c_S0, rowZ_S, h1, t_l1In, h2a, h2b, h3a, h3b, h4, h5, h6, t_TreLeaf, h6', hasLeaf, h8, h9, t_l4Key _ _ hL]
        cases isKey leaf <;> cases isKey key <;> simp [br]
      · simp (disch := omega) only [bnd_some', br_true', br_false', gBool_b, gInt_i, gStr_s, bNot_t, bNot_f, iEq_dec, iLt_dec, iLe_dec, sEq_bs, decide_true, decide_false, if_false, and_true, Int.reduceNeg, c_S0, rowZ_S, h1, t_l1In, h2a, h2b, h3a, h3b, h4, h5, h6, t_TreLeaf, h6', hasLeaf, h8, h9, h10]
        simp [h9]
end
end Kw
