import Derived.Test.YtphammifhilpdaaGreatDoorV23
import Derived.Test.YtphammifhilpdaaGreatDoorV15
namespace Kw
open Go Go.Proofs
section
variable (L D : Nat)
theorem lp_FraText (s : S) (hs : s.length ≤ 1000000) : ∀ (n k : Nat), s.length - k < n → k ≤ s.length → LP_83_4 L D n (bs s) k = some (.bool ((s.drop k).all fun b => decide (97 ≤ b.toNat ∧ b.toNat ≤ 122)), []) := by
  intro n
  induction n with
  | zero => intro k h; omega
  | succ n ih =>
    intro k hn hk
    rw [LP_83_4_succ]
    by_cases h : k < s.length
    · have h' : (k : Int) < s.length := by omega
      rw [ix_drop s k h, List.all_cons]
      have e := ih (k + 1) (by omega) (by omega)
      by_cases h1 : ((ix s (k : Int)).toNat : Int) < 97
      · have : ¬ 97 ≤ (ix s (k : Int)).toNat := by omega
        simp (disch := omega) only [bnd_some', br_true', br_false', bNot_t, iLt_dec, sLen_bs, decide_true, h', sAt_ok, h1]; simp [this]
      · by_cases h2 : (122 : Int) < (ix s (k : Int)).toNat
        · have : ¬ (ix s (k : Int)).toNat ≤ 122 := by omega
          simp (disch := omega) only [bnd_some', br_true', bNot_f, iLt_dec, sLen_bs, decide_true, decide_false, h', sAt_ok, h1, h2]; simp [this]
        · have hh : 97 ≤ (ix s (k : Int)).toNat ∧ (ix s (k : Int)).toNat ≤ 122 := by omega
          simp (disch := omega) only [bnd_some', br_true', br_false', bNot_f, iLt_dec, sLen_bs, decide_true, decide_false, h', sAt_ok, h1, h2, iAdd_n1, e]; simp [hh]
    · have h' : ¬ (k : Int) < s.length := by omega
      simp (disch := omega) only [br_false', iLt_dec, sLen_bs, decide_false, h']
      rw [List.drop_eq_nil_of_le (by omega)]; rfl
theorem t_FraText (hL : 1099511627776 ≤ L) (s : S) : ev E L (D + 1) 83 [.str (bs s)] [] = some (.bool (fraText s), []) := by
  rw [eq_83]
  unfold fraText
  by_cases h : s.length ≤ 8
  · have h' : ¬ (8 : Int) < s.length := by omega
    have := lp_FraText L D s (by omega) L 0 (by omega) (by omega)
    rw [show ((0 : Nat) : Int) = 0 from rfl, List.drop_zero] at this
    simp only [br_false', iLt_dec, sLen_bs, decide_false, h', this]; simp [h]
  · have h' : (8 : Int) < s.length := by omega
    simp only [br_true', iLt_dec, sLen_bs, decide_true, h']; simp [h]
theorem t_FraOk (hL : 1099511627776 ≤ L) (f0 : Int) (f1 : S) (f2 : Int) (f3 : S) : ev E L (D + 306) 114 [.agg [.int .i64 f0, .str (bs f1), .int .i64 f2, .str (bs f3)]] [] = some (.bool (fraOk ⟨f0, f1, f2, f3⟩), []) := by
  rw [eq_114]
  unfold fraOk
  by_cases h1 : isWho f0
  case neg =>
    have h1' : ¬ (0 ≤ f0 ∧ f0 ≤ 7) := h1
    simp only [bnd_some', br_false', gBool_b, iEq_dec, decide_false, t_l1In, h1']; simp [h1]
  obtain ⟨h1a, h1b⟩ := id h1
  by_cases h2 : secOk f1 = true
  case neg =>
    have : ¬ (secMade f1).op = 5 := fun e => by rw [secMade_op.2 (by simpa using h2)] at e; cases e
    simp only [bnd_some', br_true', br_false', gBool_b, iEq_dec, decide_true, and_true, t_l1In, h1a, h1b, t_SecOk _ _ hL, h2]; simp [this]
  obtain ⟨u, hu⟩ := Option.isSome_iff_exists.1 (show (sec f1).isSome = true from h2)
  have hm : secMade f1 = u.how := by unfold secMade; rw [hu]
  by_cases h3 : u.how.op = 5
  case neg => simp only [bnd_some', br_true', br_false', gBool_b, gInt_i, gStr_s, cellAt_zero, cellAt_succ, iEq_dec, gAggN_if, decide_true, decide_false, if_true, and_true, List.length_cons, List.length_nil, Nat.reduceAdd, t_l1In, h1a, h1b, t_SecOk _ _ hL, h2, t_l1How _ _ hL f1 u hu, rHow, h3]; simp [hm, h3]
  have hd3 : decide (u.how.op = 5) = true := decide_eq_true h3
  by_cases h4 : u.how.who = f0
  case neg => simp only [bnd_some', br_true', br_false', gBool_b, gInt_i, gStr_s, cellAt_zero, cellAt_succ, iEq_dec, gAggN_if, decide_true, decide_false, if_true, and_true, List.length_cons, List.length_nil, Nat.reduceAdd, t_l1In, h1a, h1b, t_SecOk _ _ hL, h2, t_l1How _ _ hL f1 u hu, rHow, hd3, h4]; simp [hm, h4]
  have hd4 : decide (u.how.who = f0) = true := decide_eq_true h4
  by_cases h5 : 1 ≤ f2 ∧ f2 ≤ 999
  case neg =>
    simp only [bnd_some', br_true', br_false', gBool_b, gInt_i, gStr_s, cellAt_zero, cellAt_succ, iEq_dec, gAggN_if, decide_true, decide_false, if_true, and_true, and_false, List.length_cons, List.length_nil, Nat.reduceAdd, t_l1In, h1a, h1b, t_SecOk _ _ hL, h2, t_l1How _ _ hL f1 u hu, rHow, hd3, hd4, h5]
    have : ¬ (isWho f0 ∧ (secMade f1).op = 5 ∧ (secMade f1).who = f0 ∧ 1 ≤ f2 ∧ f2 ≤ 999) := fun x => h5 x.2.2.2
    simp [this]
  obtain ⟨h5a, h5b⟩ := id h5
  have hall : (isWho f0 ∧ (secMade f1).op = 5 ∧ (secMade f1).who = f0 ∧ 1 ≤ f2 ∧ f2 ≤ 999) := ⟨h1, by rw [hm]; exact h3, by rw [hm]; exact h4, h5⟩
  simp only [bnd_some', br_true', gBool_b, gInt_i, gStr_s, cellAt_zero, cellAt_succ, iEq_dec, gAggN_if, decide_true, if_true, and_true, List.length_cons, List.length_nil, Nat.reduceAdd, t_l1In, h1a, h1b, t_SecOk _ _ hL, h2, t_l1How _ _ hL f1 u hu, rHow, hd3, hd4, h5a, h5b, t_FraText _ _ hL]
  simp [hall]
def noFrame : Frame := ⟨0, [], 0, []⟩
theorem t_FraMake (hL : 1099511627776 ≤ L) (b : Bool) (w e : Int) (ks : List S) (own : List Own) (i t : S) (hl : own.length ≤ 1000000) (n : Int) (x : S) : ev E L (D + 310) 62 [.agg [.bool b, .int .i64 w, .sl (ks.map rS), .sl (own.map rO), .int .i64 e, .str (bs i), .str (bs t)], .int .i64 n, .str (bs x)] [] =
    some (.tup (match fraMake ⟨b, w, ks, own, e, i, t⟩ n x with | some f => [.agg (rF f), .bool true] | none => [.agg (rF noFrame), .bool false]), []) := by
  rw [eq_62]
  unfold fraMake
  have no : ∀ P : Prop, ∀ [Decidable P], ¬ P → (match (if P then some (⟨w, makSay i w, n, x⟩ : Frame) else none) with | some f => [MV.agg (rF f), .bool true] | none => [.agg (rF noFrame), .bool false]) = [.agg (rF noFrame), .bool false] := fun P _ h => by rw [if_neg h]
  have hno : rF noFrame = [.int .i64 0, .str (bs []), .int .i64 0, .str (bs [])] := rfl
  by_cases h1 : memOk ⟨b, w, ks, own, e, i, t⟩ = true
  case neg => rw [no _ (fun x => h1 x.1)]; simp only [bnd_some', br_false', gBool_b, bNot_t, bNot_f, t_MemOk _ _ hL b w e ks own i t hl, h1, hno]
  cases b with
  | false => rw [no _ (fun x => by cases x.2.1)]; simp only [bnd_some', br_true', br_false', gBool_b, bNot_t, bNot_f, t_MemOk _ _ hL false w e ks own i t hl, h1, hno]
  | true =>
    by_cases h2 : 1 ≤ n ∧ n ≤ 999
    case neg => rw [no _ (fun x => h2 ⟨x.2.2.1, x.2.2.2.1⟩)]; simp only [bnd_some', br_true', br_false', gBool_b, bNot_t, bNot_f, decide_false, t_MemOk _ _ hL true w e ks own i t hl, h1, t_l1In, h2, hno]
    obtain ⟨h2a, h2b⟩ := id h2
    by_cases h3 : fraText x = true
    case neg => rw [no _ (fun x => h3 x.2.2.2.2.1)]; simp only [bnd_some', br_true', gBool_b, bNot_t, bNot_f, decide_true, and_true, t_MemOk _ _ hL true w e ks own i t hl, h1, t_l1In, h2a, h2b, t_FraText _ _ hL, h3, hno]
    by_cases h4 : makSay i w = []
    · have hd : decide (makSay i w = []) = true := decide_eq_true h4
      rw [no _ (fun x => x.2.2.2.2.2 h4)]; simp only [bnd_some', br_true', br_false', gBool_b, gStr_s, bNot_t, bNot_f, sEq_bs, decide_true, and_true, t_MemOk _ _ hL true w e ks own i t hl, h1, t_l1In, h2a, h2b, t_FraText _ _ hL, h3, t_MakSay _ _ hL, hd, hno]
    · rw [if_pos ⟨h1, rfl, h2a, h2b, h3, h4⟩]
      simp only [bnd_some', br_true', br_false', gBool_b, gStr_s, bNot_t, bNot_f, sEq_bs, decide_true, decide_false, and_true, t_MemOk _ _ hL true w e ks own i t hl, h1, t_l1In, h2a, h2b, t_FraText _ _ hL, h3, t_MakSay _ _ hL, h4, rF]
theorem lp_l6Seen (seen : List Int) (m top : Int) (ht : -1000000 ≤ top ∧ top ≤ 1000000) (hl : seen.length ≤ 1000000) : ∀ (n k : Nat) (d : Bool) (acc : List Int), seen.length - k < n → k ≤ seen.length → acc.length + 2 * seen.length ≤ 10000000 + 2 * k →
    LP_116_4 L D n (acc.map rI) (seen.map rI) m top acc.length d k = some (.sl ((acc ++ seenGo m top (seen.drop k) d).map rI), []) := by
  intro n
  induction n with
  | zero => intro k d acc h; omega
  | succ n ih =>
    intro k d acc hn hk hb
    rw [LP_116_4_succ]
    by_cases h : k < seen.length
    case neg =>
      have h' : ¬ (k : Int) < seen.length := by omega
      rw [List.drop_eq_nil_of_le (by omega)]
      cases d with
      | false => simp (disch := omega) only [br_true', br_false', bNot_f, iEq_dec, iLt_dec, bAnd_r, nrows_map, catR_map, decide_false, List.length_cons, List.length_nil, Nat.reduceAdd, okR_I, ↓dec_selfI, h', mk1_I, fits_true]; simp [seenGo]
      | true => simp (disch := omega) only [br_true', br_false', bNot_t, iEq_dec, iLt_dec, nrows_map, decide_false, ↓dec_selfI, h']; simp [seenGo]
    have h' : (k : Int) < seen.length := by omega
    rw [ix_drop seen k h, seenGo]
    have hs : iSub .i64 top 8 = top - 8 := iSub_w (by omega) (by omega)
    cases d with
    | true =>
      by_cases h2 : top - 8 < ix seen (k : Int)
      · have := ih (k + 1) true (acc ++ [ix seen (k : Int)]) (by omega) (by omega) (by simp; omega)
        simp (disch := omega) only [bnd_some', br_true', br_false', gInt_i, bNot_t, beq_self_eq_true, iEq_dec, iLt_dec, bAnd_r, nrows_map, nrows_nil, nrows_cons, decide_true, if_true, if_false, false_and, Bool.true_eq_false, List.length_cons, List.length_nil, Nat.reduceAdd, okR_I, okR_cons, okR_nil, Bool.and_self, ↓dec_selfI, c_I0, cat1_I, rowZ_I, h', hs, h2, iAdd_n1, fits_true, this]
        simp
      · have := ih (k + 1) true acc (by omega) (by omega) (by omega)
        simp (disch := omega) only [bnd_some', br_true', br_false', gInt_i, bNot_t, iLt_dec, nrows_map, decide_true, decide_false, if_false, false_and, Bool.true_eq_false, c_I0, rowZ_I, h', hs, h2, iAdd_n1, this]
        simp
    | false =>
      by_cases h1 : ix seen (k : Int) < m
      · by_cases h2 : top - 8 < ix seen (k : Int)
        · have := ih (k + 1) true (acc ++ [m] ++ [ix seen (k : Int)]) (by omega) (by omega) (by simp; omega)
          have hx : (acc ++ [m]).length = acc.length + 1 := by simp
          simp (disch := omega) only [bnd_some', br_true', gInt_i, bNot_f, beq_self_eq_true, iEq_dec, iLt_dec, bAnd_r, nrows_map, nrows_nil, nrows_cons, decide_true, if_true, and_true, List.length_cons, List.length_nil, Nat.reduceAdd, okR_I, okR_cons, okR_nil, Bool.and_self, ↓dec_selfI, c_I0, cat1_I, rowZ_I, h', hs, h1, h2, iAdd_n1, fits_true, this]
          simp [h1]
        · have := ih (k + 1) true (acc ++ [m]) (by omega) (by omega) (by simp; omega)
          simp (disch := omega) only [bnd_some', br_true', br_false', gInt_i, bNot_f, beq_self_eq_true, iEq_dec, iLt_dec, bAnd_r, nrows_map, nrows_nil, nrows_cons, decide_true, decide_false, if_true, if_false, and_true, List.length_cons, List.length_nil, Nat.reduceAdd, okR_I, okR_cons, okR_nil, Bool.and_self, ↓dec_selfI, c_I0, cat1_I, rowZ_I, h', hs, h1, h2, iAdd_n1, fits_true, this]
          simp [h1]
      · by_cases h2 : top - 8 < ix seen (k : Int)
        · have := ih (k + 1) false (acc ++ [ix seen (k : Int)]) (by omega) (by omega) (by simp; omega)
          simp (disch := omega) only [bnd_some', br_true', br_false', gInt_i, bNot_f, beq_self_eq_true, iEq_dec, iLt_dec, bAnd_r, nrows_map, nrows_nil, nrows_cons, decide_true, decide_false, if_true, if_false, and_false, List.length_cons, List.length_nil, Nat.reduceAdd, okR_I, okR_cons, okR_nil, Bool.and_self, ↓dec_selfI, c_I0, cat1_I, rowZ_I, h', hs, h1, h2, iAdd_n1, fits_true, this]
          simp [h1]
        · have := ih (k + 1) false acc (by omega) (by omega) (by omega)
          simp (disch := omega) only [bnd_some', br_true', br_false', gInt_i, bNot_f, iLt_dec, nrows_map, decide_true, decide_false, if_false, and_false, c_I0, rowZ_I, h', hs, h1, h2, iAdd_n1, this]
          simp [h1]
theorem t_l6Seen (hL : 1099511627776 ≤ L) (seen : List Int) (m top : Int) (ht : -1000000 ≤ top ∧ top ≤ 1000000) (hl : seen.length ≤ 1000000) : ev E L (D + 1) 116 [.sl (seen.map rI), .int .i64 m, .int .i64 top] [] = some (.sl ((seenGo m top seen false).map rI), []) := by
  rw [eq_116]
  exact lp_l6Seen L D seen m top ht hl L 0 false [] (by omega) (by omega) (by simp; omega)
theorem iMax_eq (a b : Int) : iMax a b = max a b := by unfold iMax; omega
theorem t_l6Take (hL : 1099511627776 ≤ L) (key : S) (top : Int) (seen : List Int) (n : Int) (ht : -1000000 ≤ top ∧ top ≤ 1000000) (hn : -1000000 ≤ n ∧ n ≤ 1000000) (hl : seen.length ≤ 1000000) : ev E L (D + 2) 92 [.agg [.str (bs key), .int .i64 top, .sl (seen.map rI)], .int .i64 n] [] =
    some (.tup (match winTake ⟨key, top, seen⟩ n with | some x => [.agg (rW x), .bool true] | none => [.agg (rW ⟨key, top, seen⟩), .bool false]), []) := by
  rw [eq_92]
  unfold winTake
  have hs : iSub .i64 top 8 = top - 8 := iSub_w (by omega) (by omega)
  by_cases h1 : n ≤ top - 8
  · rw [if_pos (.inl h1)]
    simp only [br_false', bNot_t, iLe_dec, decide_true, hs, h1, rW]
  · by_cases h2 : n ∈ seen
    · rw [if_pos (.inr h2)]
      simp only [bnd_some', br_true', gBool_b, bNot_f, iLe_dec, decide_true, decide_false, hs, h1, t_l4In _ _ hL seen n hl, h2, rW]
    · rw [if_neg (fun x => x.elim h1 h2)]
      have hsn := t_l6Seen L D hL seen n (max top n) (by omega) hl
      simp only [bnd_some', br_true', br_false', gBool_b, gSl_r, bNot_f, iLe_dec, decide_false, hs, h1, t_l4In _ _ hL seen n hl, h2, iMax_eq, hsn, rW]
theorem lp_l6At (wins : List Win) (key : S) (hl : wins.length ≤ 1000000) : ∀ (n k : Nat), wins.length - k < n → k ≤ wins.length → LP_91_2 L D n (wins.map rW) (bs key) k = some (.int .i64 (winAt (wins.drop k) key k), []) := by
  intro n
  induction n with
  | zero => intro k h; omega
  | succ n ih =>
    intro k hn hk
    rw [LP_91_2_succ]
    by_cases h : k < wins.length
    · have h' : (k : Int) < wins.length := by omega
      rw [ix_drop wins k h, winAt]
      by_cases h1 : (ix wins (k : Int)).key = key
      · have hd : decide ((ix wins (k : Int)).key = key) = true := decide_eq_true h1
        rw [if_pos h1]
        simp (disch := omega) only [bnd_some', br_true', gStr_s, iLt_dec, sEq_bs, nrows_map, decide_true, c_W0, rowZ_W, h', hd]
      · rw [if_neg h1]
        simp (disch := omega) only [bnd_some', br_true', br_false', gStr_s, iLt_dec, sEq_bs, nrows_map, decide_true, decide_false, c_W0, rowZ_W, h', h1, iAdd_n1, ih (k + 1) (by omega) (by omega)]
    · have h' : ¬ (k : Int) < wins.length := by omega
      simp (disch := omega) only [br_false', iLt_dec, nrows_map, decide_false, Int.reduceNeg, h']
      rw [List.drop_eq_nil_of_le (by omega)]; rfl
theorem t_l6At (hL : 1099511627776 ≤ L) (wins : List Win) (key : S) (hl : wins.length ≤ 1000000) : ev E L (D + 1) 91 [.sl (wins.map rW), .str (bs key)] [] = some (.int .i64 (winAt wins key 0), []) := by
  rw [eq_91]
  exact lp_l6At L D wins key hl L 0 (by omega) (by omega)
theorem winAt_lt : ∀ (l : List Win) (key : S) (k : Nat), winAt l key k < 0 ∨ ((k : Int) ≤ winAt l key k ∧ winAt l key k < k + l.length)
  | [], _, _ => .inl (by simp [winAt])
  | w :: r, key, k => by
    unfold winAt
    split
    · right; simp; omega
    · rcases winAt_lt r key (k + 1) with h | h
      · exact .inl h
      · right; simp; omega
theorem t_l6Hears (hL : 1099511627776 ≤ L) (b : Bool) (w e : Int) (ks : List S) (own : List Own) (i t : S) (h15 : b = true → ks.length = 15) (f0 : Int) (f1 : S) (f2 : Int) (f3 : S) : ev E L (D + 308) 90 [.agg [.bool b, .int .i64 w, .sl (ks.map rS), .sl (own.map rO), .int .i64 e, .str (bs i), .str (bs t)], .agg [.int .i64 f0, .str (bs f1), .int .i64 f2, .str (bs f3)]] [] = some (.bool (hears ⟨b, w, ks, own, e, i, t⟩ ⟨f0, f1, f2, f3⟩), []) := by
  rw [eq_90]
  unfold hears
  cases b with
  | false => simp only [br_false', bNot_dec, br_bNot, iEq_dec]; simp
  | true =>
    have h15 := h15 rfl
    by_cases h1 : fraOk ⟨f0, f1, f2, f3⟩ = true
    case neg => simp only [bnd_some', br_true', br_false', gBool_b, bNot_dec, br_bNot, iEq_dec, t_FraOk _ _ hL, h1]; simp [h1]
    have hw : isWho f0 := by
      unfold fraOk at h1
      simp only [Bool.and_eq_true, decide_eq_true_eq] at h1
      exact h1.1.1
    obtain ⟨l1, l2⟩ := treLeaf_rng hw
    have hlt : treLeaf f0 < ks.length := by omega
    by_cases h2 : f0 = w
    · have hd : decide (¬ f0 = w) = false := decide_eq_false (fun x => x h2)
      simp only [bnd_some', br_true', br_false', gBool_b, bNot_dec, iEq_dec, t_FraOk _ _ hL, h1, hd]; simp [h2]
    by_cases h3 : ix ks (treLeaf f0) = []
    · have hd : decide (¬ ix ks (treLeaf f0) = []) = false := decide_eq_false (fun x => x h3)
      simp (disch := omega) only [bnd_some', br_true', br_false', gBool_b, gInt_i, gStr_s, bNot_f, bNot_dec, iEq_dec, sEq_bs, decide_false, c_S0, rowZ_S, t_FraOk _ _ hL, h1, h2, t_TreLeaf, hd]; simp [hasLeaf, h3]
    simp (disch := omega) only [bnd_some', br_true', gBool_b, gInt_i, gStr_s, bNot_f, iEq_dec, sEq_bs, decide_false, c_S0, rowZ_S, t_FraOk _ _ hL, h1, h2, t_TreLeaf, h3, t_MakSay _ _ hL]
    simp [hasLeaf, h3, h2]
def winsB (wins : List Win) : Prop := ∀ x ∈ wins, (-1000000 ≤ x.top ∧ x.top ≤ 1000000) ∧ x.seen.length ≤ 1000
theorem winsB_ix {wins : List Win} (h : winsB wins) {k : Int} (h0 : 0 ≤ k) (h1 : k < wins.length) : (-1000000 ≤ (ix wins k).top ∧ (ix wins k).top ≤ 1000000) ∧ (ix wins k).seen.length ≤ 1000 := by
  have : ix wins k = wins[k.toNat]'(by omega) := by simp [ix, (by omega : k.toNat < wins.length)]
  rw [this]; exact h _ (List.getElem_mem _)
theorem fra_n {f0 : Int} {f1 : S} {f2 : Int} {f3 : S} (h : fraOk ⟨f0, f1, f2, f3⟩ = true) : isWho f0 ∧ 1 ≤ f2 ∧ f2 ≤ 999 := by
  unfold fraOk at h
  simp only [Bool.and_eq_true, decide_eq_true_eq] at h
  exact ⟨h.1.1, h.1.2.2.2⟩
theorem t_l6Get (hL : 1099511627776 ≤ L) (b : Bool) (w e : Int) (ks : List S) (own : List Own) (i t : S) (h15 : b = true → ks.length = 15) (wins : List Win) (hwl : wins.length ≤ 100000) (hwb : winsB wins) (f0 : Int) (f1 : S) (f2 : Int) (f3 : S) : ev E L (D + 309) 66 [.agg [.bool b, .int .i64 w, .sl (ks.map rS), .sl (own.map rO), .int .i64 e, .str (bs i), .str (bs t)], .sl (wins.map rW), .agg [.int .i64 f0, .str (bs f1), .int .i64 f2, .str (bs f3)]] [] =
    some (.tup (match fraGet ⟨b, w, ks, own, e, i, t⟩ wins ⟨f0, f1, f2, f3⟩ with | some x => [.sl (x.map rW), .bool true] | none => [.sl ((if hears ⟨b, w, ks, own, e, i, t⟩ ⟨f0, f1, f2, f3⟩ = true ∧ 0 ≤ winAt wins f1 0 then wins.set (winAt wins f1 0).toNat (ix wins (winAt wins f1 0)) else wins).map rW), .bool false]), []) := by
  rw [eq_66]
  unfold fraGet
  have hh := t_l6Hears L D hL b w e ks own i t h15 f0 f1 f2 f3
  by_cases h1 : hears ⟨b, w, ks, own, e, i, t⟩ ⟨f0, f1, f2, f3⟩ = true
  case neg =>
    rw [if_neg h1]
    simp only [bnd_some', br_true', gBool_b, bNot_f, if_false, false_and, Bool.false_eq_true, hh, h1]
  rw [if_pos h1]
  have hfr : fraOk ⟨f0, f1, f2, f3⟩ = true := by
    unfold hears at h1
    simp only [Bool.and_eq_true] at h1
    exact h1.2.1
  obtain ⟨_, n1, n2⟩ := fra_n hfr
  have hat := t_l6At L (D + 307) hL wins f1 (by omega)
  simp only
  by_cases h2 : winAt wins f1 0 < 0
  · rw [if_pos h2]
    have e1 : [[MV.str (bs f1), .int .i64 f2, .sl [[.int .i64 f2]]]] = [(⟨f1, f2, [f2]⟩ : Win)].map rW := rfl
    simp (disch := omega) only [bnd_some', br_true', br_false', gBool_b, gInt_i, bNot_t, iEq_dec, iLt_dec, bAnd_r, nrows_map, nrows_nil, nrows_cons, catR_map, decide_true, List.length_cons, List.length_nil, Nat.reduceAdd, okR_W, okR_nil, ↓dec_selfI, catR_nil, hh, h1, hat, h2, e1, fits_true]
  · rw [if_neg h2]
    rcases winAt_lt wins f1 0 with h3 | h3
    · exact absurd h3 h2
    obtain ⟨p1, p2⟩ := h3
    have p2' : winAt wins f1 0 < wins.length := by omega
    have p1' : 0 ≤ winAt wins f1 0 := by omega
    obtain ⟨t1, t2⟩ := winsB_ix hwb p1' p2'
    have htk := t_l6Take L (D + 306) hL (ix wins (winAt wins f1 0)).key (ix wins (winAt wins f1 0)).top (ix wins (winAt wins f1 0)).seen f2 t1 (by omega) (by omega)
    have e1 : (⟨(ix wins (winAt wins f1 0)).key, (ix wins (winAt wins f1 0)).top, (ix wins (winAt wins f1 0)).seen⟩ : Win) = ix wins (winAt wins f1 0) := rfl
    rw [e1] at htk
    cases e2 : winTake (ix wins (winAt wins f1 0)) f2 with
    | none =>
      rw [e2] at htk
      simp only [rW] at htk
      simp (disch := omega) only [bnd_some', br_true', br_false', gBool_b, gInt_i, gStr_s, gSl_r, cellAt_zero, cellAt_succ, bNot_t, iEq_dec, iLt_dec, iLe_dec, bAnd_r, nrows_map, nrows_nil, gTupN_if, gAggN_if, decide_true, decide_false, if_true, true_and, List.length_cons, List.length_nil, Int.reduceLE, Nat.reduceAdd, okR_W, okR_nil, ↓dec_selfI, c_W0, c_W1, c_W2, setRow_W, rowLen_W, rowAt_W, set_W, rowZ_W, catR_nil, hh, h1, hat, h2, htk, fits_true, e1, List.length_set]
      simp [p1']
    | some x =>
      rw [e2] at htk
      simp only [rW] at htk
      have e3 : (⟨x.key, x.top, x.seen⟩ : Win) = x := rfl
      simp (disch := omega) only [bnd_some', br_true', br_false', gBool_b, gInt_i, gStr_s, gSl_r, cellAt_zero, cellAt_succ, bNot_t, iEq_dec, iLt_dec, iLe_dec, bAnd_r, nrows_map, nrows_nil, gTupN_if, gAggN_if, decide_true, decide_false, if_true, List.length_cons, List.length_nil, Int.reduceLE, Nat.reduceAdd, okR_W, okR_nil, ↓dec_selfI, c_W0, c_W1, c_W2, setRow_W, rowLen_W, rowAt_W, set_W, rowZ_W, catR_nil, hh, h1, hat, h2, htk, fits_true, e3, List.length_set]
theorem lp_l6Wins (wins : List Win) (hl : wins.length ≤ 100000) (hb : winsB wins) : ∀ (n k : Nat) (acc : List Win), wins.length - k < n → k ≤ wins.length → acc.length + wins.length ≤ 1000000 + k → LP_45_3 L D n (acc.map rW) (wins.map rW) acc.length k = some (.sl ((acc ++ wins.drop k).map rW), []) := by
  intro n
  induction n with
  | zero => intro k acc h; omega
  | succ n ih =>
    intro k acc hn hk hc
    rw [LP_45_3_succ]
    by_cases h : k < wins.length
    · have h' : (k : Int) < wins.length := by omega
      obtain ⟨_, t2⟩ := winsB_ix hb (by omega) h'
      rw [ix_drop wins k h]
      have := ih (k + 1) (acc ++ [ix wins (k : Int)]) (by omega) (by omega) (by simp; omega)
      have e1 : (⟨(ix wins (k : Int)).key, (ix wins (k : Int)).top, (ix wins (k : Int)).seen⟩ : Win) = ix wins (k : Int) := rfl
      simp (disch := omega) only [bnd_some', br_true', gInt_i, gStr_s, gSl_r, beq_self_eq_true, iEq_dec, iLt_dec, bAnd_r, nrows_map, nrows_nil, nrows_cons, decide_true, List.length_cons, List.length_nil, Nat.reduceAdd, okR_I, okR_W, okR_cons, okR_nil, Bool.and_self, ↓dec_selfI, c_W0, c_W1, c_W2, cat1_W, rowZ_W, catR_nil, h', iAdd_n1, fits_true, e1, this]
      simp
    · have h' : ¬ (k : Int) < wins.length := by omega
      simp (disch := omega) only [br_true', br_false', iEq_dec, iLt_dec, nrows_map, decide_false, ↓dec_selfI, h']
      rw [List.drop_eq_nil_of_le (by omega), List.append_nil]
theorem t_l6Wins (hL : 1099511627776 ≤ L) (wins : List Win) (hl : wins.length ≤ 100000) (hb : winsB wins) : ev E L (D + 1) 45 [.sl (wins.map rW)] [] = some (.sl (wins.map rW), []) := by
  rw [eq_45]
  exact lp_l6Wins L D wins hl hb L 0 [] (by omega) (by omega) (by simp; omega)
end
end Kw
namespace Kw
open Go Go.Proofs
section
variable (L D : Nat)
def newSeat (w : Int) (k : Nat) : Member := if (k : Int) = w then memFirst w (makNew w 1) (makNew w 2) else noMember
def newFresh (w : Int) (k : Nat) : Int := if (k : Int) = w then 2 else 0
theorem rep_succ {A : Type} (k : Nat) (x : A) : List.replicate k x ++ [x] = List.replicate (k + 1) x := by rw [List.replicate_succ']
theorem lp_GrpNew (hL : 1099511627776 ≤ L) (w : Int) (hw : isWho w) : ∀ (n k : Nat), 8 - k < n → k ≤ 8 →
    LP_26_5 L (D + 309) n [] [] [] [] [] [] [] [] [] [] (((List.range k).map (newSeat w)).map rM) [] [] (((List.range k).map (newFresh w)).map rI) [] [] [] ((List.replicate k (0 : Int)).map rI) ((List.replicate k ([] : List Win)).map rWs) [] 0 0 0 0 0 0 0 0 0 0 k 0 0 k 0 0 0 k k 0 w k =
    some (.agg [.own ((grpNew w).seats.map rM), .own ((grpNew w).waits.map rWt), .own ((grpNew w).log.map rC), .own ((grpNew w).fresh.map rI), .own ((grpNew w).spy.map rS), .own ((grpNew w).stolen.map rSt), .own ((grpNew w).frames.map rF), .own ((grpNew w).said.map rI), .own ((grpNew w).wins.map rWs), .own ((grpNew w).told.map rT)], []) := by
  intro n
  induction n with
  | zero => intro k h; omega
  | succ n ih =>
    intro k hn hk
    rw [LP_26_5_succ]
    have l1 : ((List.range k).map (newSeat w)).length = k := by simp
    have l2 : ((List.range k).map (newFresh w)).length = k := by simp
    have l3 : (List.replicate k (0 : Int)).length = k := by simp
    have l4 : (List.replicate k ([] : List Win)).length = k := by simp
    by_cases h : k < 8
    case neg =>
      have h' : ¬ (k : Int) < 8 := by omega
      have e8 : k = 8 := by omega
      have hg : grpNew w = ⟨(List.range 8).map (newSeat w), [], [], (List.range 8).map (newFresh w), [], [], [], List.replicate 8 0, List.replicate 8 [], []⟩ := by
        unfold grpNew; rw [if_pos hw]; rfl
      rw [hg]
      simp (disch := omega) only [br_true', br_false', iEq_dec, iLt_dec, nrows_map, nrows_nil, decide_false, ↓dec_selfI, h', l1, l2, l3, l4]
      rw [e8]; rfl
    have h' : (k : Int) < 8 := by omega
    have e := ih (k + 1) (by omega) (by omega)
    have s1 : (List.range k).map (newSeat w) ++ [newSeat w k] = (List.range (k + 1)).map (newSeat w) := by simp [List.range_succ]
    have s2 : (List.range k).map (newFresh w) ++ [newFresh w k] = (List.range (k + 1)).map (newFresh w) := by simp [List.range_succ]
    have s3 := rep_succ k (0 : Int)
    have s4 := rep_succ k ([] : List Win)
    have m1 : ((List.range (k + 1)).map (newSeat w)).length = k + 1 := by simp
    have m2 : ((List.range (k + 1)).map (newFresh w)).length = k + 1 := by simp
    have m3 : (List.replicate (k + 1) (0 : Int)).length = k + 1 := by simp
    have m4 : (List.replicate (k + 1) ([] : List Win)).length = k + 1 := by simp
    have w1 : [[MV.sl []]] = [([] : List Win)].map rWs := rfl
    by_cases hk1 : (k : Int) = w
    · have f1 : newSeat w k = memFirst w (makNew w 1) (makNew w 2) := if_pos hk1
      have f2 : newFresh w k = 2 := if_pos hk1
      have hmf := t_MemFirst L D hL w (makNew w 1) (makNew w 2)
      rw [f1] at s1
      rw [f2] at s2
      simp only [rM] at hmf
      generalize memFirst w (makNew w 1) (makNew w 2) = m at hmf s1
      have e1 : (⟨m.inn, m.who, m.keys, m.own, m.epoch, m.init, m.tag⟩ : Member) = m := rfl
      have hd : decide ((k : Int) = w) = true := decide_eq_true hk1
      simp (disch := omega) only [bnd_some', br_true', gBool_b, gInt_i, gStr_s, gSl_r, cellAt_zero, cellAt_succ, beq_self_eq_true, iEq_dec, iLt_dec, bAnd_r, nrows_map, nrows_nil, nrows_cons, catR_map, gAggN_if, decide_true, if_true, List.length_cons, List.length_nil, Nat.reduceAdd, okR_I, okR_M, okR_Ws, okR_cons, okR_nil, Bool.and_self, ↓dec_selfI, cat1_M, h', hd, t_MakNew _ _ hL, hmf, e1, mk1_I, w1, l1, l2, l3, l4, fits_true, s1, s2, s3, s4, m1, m2, m3, m4, iAdd_n1, e]
    · have f1 : newSeat w k = noMember := if_neg hk1
      have f2 : newFresh w k = 0 := if_neg hk1
      rw [f1] at s1
      rw [f2] at s2
      have e1 : [[MV.bool false, .int .i64 0, .sl [], .sl [], .int .i64 0, .str (bs []), .str (bs [])]] = [noMember].map rM := rfl
      simp (disch := omega) only [br_true', br_false', iEq_dec, iLt_dec, bAnd_r, nrows_map, nrows_nil, catR_map, decide_true, decide_false, List.length_cons, List.length_nil, Nat.reduceAdd, okR_I, okR_M, okR_Ws, ↓dec_selfI, h', hk1, e1, mk1_I, w1, l1, l2, l3, l4, fits_true, s1, s2, s3, s4, m1, m2, m3, m4, iAdd_n1, e]
theorem t_GrpNew (hL : 1099511627776 ≤ L) (w : Int) : ev E L (D + 310) 26 [.int .i64 w] [] =
    some (.agg [.own ((grpNew w).seats.map rM), .own ((grpNew w).waits.map rWt), .own ((grpNew w).log.map rC), .own ((grpNew w).fresh.map rI), .own ((grpNew w).spy.map rS), .own ((grpNew w).stolen.map rSt), .own ((grpNew w).frames.map rF), .own ((grpNew w).said.map rI), .own ((grpNew w).wins.map rWs), .own ((grpNew w).told.map rT)], []) := by
  rw [eq_26]
  by_cases hw : isWho w
  · obtain ⟨h1, h2⟩ := id hw
    simp only [bnd_some', br_false', gBool_b, bNot_t, nrows_nil, decide_true, and_true, t_l1In, h1, h2]
    exact lp_GrpNew L D hL w hw L 0 (by omega) (by omega)
  · have h1 : ¬ (0 ≤ w ∧ w ≤ 7) := hw
    simp only [bnd_some', br_true', gBool_b, bNot_f, decide_false, t_l1In, h1]
    unfold grpNew
    rw [if_neg hw]; rfl
theorem t_l7Cmt (c0 : Int) (c1 c2 : S) (c3 c4 : Int) (c5 : S) (c6 : List S) (c7 : List Box) (c8 c9 c10 c11 c12 : S) (h1 : c6.length ≤ 1000000) (h2 : c7.length ≤ 1000000) : ev E L (D + 1) 44 [.agg [.int .i64 c0, .str (bs c1), .str (bs c2), .int .i64 c3, .int .i64 c4, .str (bs c5), .sl (c6.map rS), .sl (c7.map rB), .str (bs c8), .str (bs c9), .str (bs c10), .str (bs c11), .str (bs c12)]] [] = some (.agg (rC ⟨c0, c1, c2, c3, c4, c5, c6, c7, c8, c9, c10, c11, c12⟩), []) := by
  rw [eq_44]
  simp (disch := omega) only [br_true', iEq_dec, bAnd_r, nrows_map, nrows_nil, okR_S, okR_B, okR_nil, ↓dec_selfI, catR_nil, fits_true, rC]
end
end Kw
namespace Kw
open Go Go.Proofs
/-- sizes of a world's parts -/
structure WSz (w : World) : Prop where
  seats : w.seats.length ≤ 1000
  waits : w.waits.length ≤ 100000
  log : w.log.length ≤ 1000
  fresh : w.fresh.length ≤ 1000
  spy : w.spy.length ≤ 100000
  stolen : w.stolen.length ≤ 100000
  frames : w.frames.length ≤ 100000
  said : w.said.length ≤ 1000
  wins : w.wins.length ≤ 1000
  told : w.told.length ≤ 100000
  seat : ∀ m ∈ w.seats, m.keys.length ≤ 1000 ∧ m.own.length ≤ 1000 ∧ (m.inn = false → m.keys = [])
  cmt : ∀ c ∈ w.log, c.keys.length ≤ 1000 ∧ c.boxes.length ≤ 1000
  win : ∀ l ∈ w.wins, l.length ≤ 1000 ∧ winsB l
theorem ix_mem {A : Type} [Inhabited A] (l : List A) (k : Nat) (h : k < l.length) : ix l (k : Int) ∈ l := by rw [ix_nat l k h]; exact List.getElem_mem h
section
variable (L D : Nat)
theorem lp_copy3 (hL : 1099511627776 ≤ L) (w : World) (z : WSz w) : ∀ (n k : Nat) (B : List (List Win)), w.wins.length - k < n → k ≤ w.wins.length → B ++ w.wins.drop k = w.wins →
    LP_29_11 L (D + 2) n [] [] [] [] [] [] [] [] [] [] (w.seats.map rM) (w.waits.map rWt) (w.log.map rC) (w.fresh.map rI) (w.spy.map rS) (w.stolen.map rSt) (w.frames.map rF) (w.said.map rI) (B.map rWs) (w.told.map rT) (w.seats.map rM) (w.waits.map rWt) (w.log.map rC) (w.fresh.map rI) (w.spy.map rS) (w.stolen.map rSt) (w.frames.map rF) (w.said.map rI) (w.wins.map rWs) (w.told.map rT) 0 0 0 0 0 0 0 0 0 0 w.seats.length w.waits.length w.log.length w.fresh.length w.spy.length w.stolen.length w.frames.length w.said.length B.length w.told.length k = some (.agg [.own (w.seats.map rM), .own (w.waits.map rWt), .own (w.log.map rC), .own (w.fresh.map rI), .own (w.spy.map rS), .own (w.stolen.map rSt), .own (w.frames.map rF), .own (w.said.map rI), .own (w.wins.map rWs), .own (w.told.map rT)], []) := by
  intro n
  induction n with
  | zero => intro k B h; omega
  | succ n ih =>
    intro k B hn hk hB
    rw [LP_29_11_succ]
    have hBl := congrArg List.length hB
    rw [List.length_append, List.length_drop] at hBl
    have z9 := z.wins
    by_cases h : k < w.wins.length
    case neg =>
      have h' : ¬ (k : Int) < w.wins.length := by omega
      rw [List.drop_eq_nil_of_le (by omega), List.append_nil] at hB
      subst hB
      simp (disch := omega) only [br_true', br_false', iEq_dec, iLt_dec, nrows_map, decide_false, ↓dec_selfI, h']
    have h' : (k : Int) < w.wins.length := by omega
    obtain ⟨q1, q2⟩ := z.win _ (ix_mem w.wins k h)
    have hw := t_l6Wins L (D + 1) hL (ix w.wins (k : Int)) (by omega) q2
    have e1 : [[MV.sl ((ix w.wins (k : Int)).map rW)]] = [ix w.wins (k : Int)].map rWs := rfl
    have := ih (k + 1) (B ++ [ix w.wins (k : Int)]) (by omega) (by omega) (by rw [List.append_assoc]; rw [ix_drop w.wins k h] at hB; exact hB)
    simp (disch := omega) only [bnd_some', br_true', gSl_r, iEq_dec, iLt_dec, bAnd_r, nrows_map, catR_map, decide_true, List.length_cons, List.length_nil, Nat.reduceAdd, okR_Ws, ↓dec_selfI, c_Ws0, rowZ_Ws, h', hw, e1, fits_true, iAdd_n1, this]
theorem lp_copy2 (hL : 1099511627776 ≤ L) (w : World) (z : WSz w) : ∀ (n k : Nat) (C : List Commit), w.log.length - k < n → k ≤ w.log.length → C ++ w.log.drop k = w.log →
    LP_29_7 L (D + 2) n [] [] [] [] [] [] [] [] [] [] (w.seats.map rM) (w.waits.map rWt) (C.map rC) (w.fresh.map rI) (w.spy.map rS) (w.stolen.map rSt) (w.frames.map rF) (w.said.map rI) [] (w.told.map rT) (w.seats.map rM) (w.waits.map rWt) (w.log.map rC) (w.fresh.map rI) (w.spy.map rS) (w.stolen.map rSt) (w.frames.map rF) (w.said.map rI) (w.wins.map rWs) (w.told.map rT) 0 0 0 0 0 0 0 0 0 0 w.seats.length w.waits.length C.length w.fresh.length w.spy.length w.stolen.length w.frames.length w.said.length 0 w.told.length k = some (.agg [.own (w.seats.map rM), .own (w.waits.map rWt), .own (w.log.map rC), .own (w.fresh.map rI), .own (w.spy.map rS), .own (w.stolen.map rSt), .own (w.frames.map rF), .own (w.said.map rI), .own (w.wins.map rWs), .own (w.told.map rT)], []) := by
  intro n
  induction n with
  | zero => intro k C h; omega
  | succ n ih =>
    intro k C hn hk hB
    rw [LP_29_7_succ]
    have hBl := congrArg List.length hB
    rw [List.length_append, List.length_drop] at hBl
    have z9 := z.log
    by_cases h : k < w.log.length
    case neg =>
      have h' : ¬ (k : Int) < w.log.length := by omega
      rw [List.drop_eq_nil_of_le (by omega), List.append_nil] at hB
      subst hB
      have := lp_copy3 L D hL w z L 0 [] (by have := z.wins; omega) (by omega) rfl
      simp (disch := omega) only [br_false', iLt_dec, nrows_map, decide_false, h']
      exact this
    have h' : (k : Int) < w.log.length := by omega
    obtain ⟨q1, q2⟩ := z.cmt _ (ix_mem w.log k h)
    generalize hc : ix w.log (k : Int) = c at q1 q2
    have hw := t_l7Cmt L (D + 1) c.sender c.tag c.name c.add c.remove c.leaf c.keys c.boxes c.wkey c.wik c.wis c.wsk c.wss (by omega) (by omega)
    have e1 : (⟨c.sender, c.tag, c.name, c.add, c.remove, c.leaf, c.keys, c.boxes, c.wkey, c.wik, c.wis, c.wsk, c.wss⟩ : Commit) = c := rfl
    have e2 : [rC c] = [c].map rC := rfl
    simp only [rC] at hw
    have := ih (k + 1) (C ++ [c]) (by omega) (by omega) (by rw [List.append_assoc]; rw [ix_drop w.log k h, hc] at hB; exact hB)
    simp (disch := omega) only [bnd_some', br_true', gInt_i, gStr_s, gSl_r, cellAt_zero, cellAt_succ, beq_self_eq_true, iEq_dec, iLt_dec, bAnd_r, nrows_map, nrows_nil, nrows_cons, gAggN_if, decide_true, if_true, List.length_cons, List.length_nil, Nat.reduceAdd, okR_C, okR_cons, okR_nil, Bool.and_self, ↓dec_selfI, c_C0, c_C1, c_C2, c_C3, c_C4, c_C5, c_C6, c_C7, c_C8, c_C9, c_C10, c_C11, c_C12, cat1_C, rowZ_C, h', hc, hw, e1, fits_true, iAdd_n1, this]
theorem lp_copy1 (hL : 1099511627776 ≤ L) (w : World) (z : WSz w) : ∀ (n k : Nat) (A : List Member), w.seats.length - k < n → k ≤ w.seats.length → A ++ w.seats.drop k = w.seats →
    LP_29_3 L (D + 2) n [] [] [] [] [] [] [] [] [] [] (A.map rM) (w.waits.map rWt) [] (w.fresh.map rI) (w.spy.map rS) (w.stolen.map rSt) (w.frames.map rF) (w.said.map rI) [] (w.told.map rT) (w.seats.map rM) (w.waits.map rWt) (w.log.map rC) (w.fresh.map rI) (w.spy.map rS) (w.stolen.map rSt) (w.frames.map rF) (w.said.map rI) (w.wins.map rWs) (w.told.map rT) 0 0 0 0 0 0 0 0 0 0 A.length w.waits.length 0 w.fresh.length w.spy.length w.stolen.length w.frames.length w.said.length 0 w.told.length k = some (.agg [.own (w.seats.map rM), .own (w.waits.map rWt), .own (w.log.map rC), .own (w.fresh.map rI), .own (w.spy.map rS), .own (w.stolen.map rSt), .own (w.frames.map rF), .own (w.said.map rI), .own (w.wins.map rWs), .own (w.told.map rT)], []) := by
  intro n
  induction n with
  | zero => intro k A h; omega
  | succ n ih =>
    intro k A hn hk hB
    rw [LP_29_3_succ]
    have hBl := congrArg List.length hB
    rw [List.length_append, List.length_drop] at hBl
    have z9 := z.seats
    by_cases h : k < w.seats.length
    case neg =>
      have h' : ¬ (k : Int) < w.seats.length := by omega
      rw [List.drop_eq_nil_of_le (by omega), List.append_nil] at hB
      subst hB
      have := lp_copy2 L D hL w z L 0 [] (by have := z.log; omega) (by omega) rfl
      simp (disch := omega) only [br_false', iLt_dec, nrows_map, decide_false, h']
      exact this
    have h' : (k : Int) < w.seats.length := by omega
    obtain ⟨q1, q2, q3⟩ := z.seat _ (ix_mem w.seats k h)
    generalize hc : ix w.seats (k : Int) = m at q1 q2 q3
    have hw := t_l5Same L D hL m.inn m.who m.epoch m.keys m.own m.init m.tag (by omega) (by omega)
    have e0 : (if m.inn = true then m.keys else []) = m.keys := by
      cases hi : m.inn with
      | true => rfl
      | false => rw [q3 hi]; rfl
    rw [e0] at hw
    have e1 : (⟨m.inn, m.who, m.keys, m.own, m.epoch, m.init, m.tag⟩ : Member) = m := rfl
    simp only [rM] at hw
    have := ih (k + 1) (A ++ [m]) (by omega) (by omega) (by rw [List.append_assoc]; rw [ix_drop w.seats k h, hc] at hB; exact hB)
    simp (disch := omega) only [bnd_some', br_true', gBool_b, gInt_i, gStr_s, gSl_r, cellAt_zero, cellAt_succ, beq_self_eq_true, iEq_dec, iLt_dec, bAnd_r, nrows_map, nrows_nil, nrows_cons, gAggN_if, decide_true, if_true, List.length_cons, List.length_nil, Nat.reduceAdd, okR_M, okR_cons, okR_nil, Bool.and_self, ↓dec_selfI, c_M0, c_M1, c_M2, c_M3, c_M4, c_M5, c_M6, cat1_M, rowZ_M, h', hc, hw, e1, fits_true, iAdd_n1, this]
theorem t_l7Copy (hL : 1099511627776 ≤ L) (w : World) (z : WSz w) : ev E L (D + 3) 29 [.agg [.sl (w.seats.map rM), .sl (w.waits.map rWt), .sl (w.log.map rC), .sl (w.fresh.map rI), .sl (w.spy.map rS), .sl (w.stolen.map rSt), .sl (w.frames.map rF), .sl (w.said.map rI), .sl (w.wins.map rWs), .sl (w.told.map rT)]] [] = some (.agg [.own (w.seats.map rM), .own (w.waits.map rWt), .own (w.log.map rC), .own (w.fresh.map rI), .own (w.spy.map rS), .own (w.stolen.map rSt), .own (w.frames.map rF), .own (w.said.map rI), .own (w.wins.map rWs), .own (w.told.map rT)], []) := by
  rw [eq_29]
  have z1 := z.waits
  have z2 := z.fresh
  have z3 := z.spy
  have z4 := z.stolen
  have z5 := z.frames
  have z6 := z.said
  have z7 := z.told
  have := lp_copy1 L D hL w z L 0 [] (by have := z.seats; omega) (by omega) rfl
  simp (disch := omega) only [br_true', iEq_dec, bAnd_r, nrows_map, nrows_nil, okR_S, okR_I, okR_F, okR_Wt, okR_St, okR_T, okR_nil, ↓dec_selfI, catR_nil, fits_true]
  exact this
end
end Kw
namespace Kw
open Go Go.Proofs
/-- what holds of worlds behind what happens -/
structure WI (w : World) : Prop where
  seats8 : w.seats.length = 8
  fresh8 : w.fresh.length = 8
  said8 : w.said.length = 8
  wins8 : w.wins.length = 8
  log16 : w.log.length ≤ 16
  waitsL : w.waits.length ≤ 16
  stolen12 : w.stolen.length ≤ 12
  spyL : w.spy.length ≤ 31 * w.stolen.length
  frames40 : w.frames.length ≤ 40
  told320 : w.told.length ≤ 320
  freshR : ∀ x ∈ w.fresh, 0 ≤ x ∧ x ≤ 100
  saidR : ∀ x ∈ w.said, 0 ≤ x ∧ x ≤ 999
  seat : ∀ m ∈ w.seats, (m.inn = true → m.keys.length = 15) ∧ (m.inn = false → m.keys = []) ∧ m.own.length ≤ 30 ∧ m.tag.length ≤ 600 ∧ m.keys.length ≤ 15
  cmt : ∀ c ∈ w.log, c.tag.length ≤ 300 ∧ c.keys.length ≤ 1000 ∧ c.boxes.length ≤ 1000
  win : ∀ l ∈ w.wins, l.length ≤ w.told.length ∧ ∀ x ∈ l, (0 ≤ x.top ∧ x.top ≤ 999) ∧ x.seen.length ≤ w.told.length + 1
theorem WI.sz {w : World} (z : WI w) : WSz w where
  seats := by have := z.seats8; omega
  waits := by have := z.waitsL; omega
  log := by have := z.log16; omega
  fresh := by have := z.fresh8; omega
  spy := by have := z.spyL; have := z.stolen12; omega
  stolen := by have := z.stolen12; omega
  frames := by have := z.frames40; omega
  said := by have := z.said8; omega
  wins := by have := z.wins8; omega
  told := by have := z.told320; omega
  seat := fun m hm => by obtain ⟨a, b, c, d, e⟩ := z.seat m hm; exact ⟨by omega, by omega, b⟩
  cmt := fun c hc => by obtain ⟨a, b, d⟩ := z.cmt c hc; exact ⟨b, d⟩
  win := fun l hl => by
    obtain ⟨a, b⟩ := z.win l hl
    have := z.told320
    exact ⟨by omega, fun x hx => by obtain ⟨c, d⟩ := b x hx; exact ⟨by omega, by omega⟩⟩
theorem ixm {A : Type} [Inhabited A] (l : List A) (i : Int) (h0 : 0 ≤ i) (h1 : i < l.length) : ix l i ∈ l := by
  have h : i.toNat < l.length := by omega
  have : ix l i = l[i.toNat] := by simp [ix, h]
  rw [this]; exact List.getElem_mem h
section
variable (L D : Nat)
theorem t_l7Hear (hL : 1099511627776 ≤ L) (w : World) (z : WI w) (who pos : Int) (hw : isWho who) (hp : 0 ≤ pos ∧ pos < w.log.length) : ev E L (D + 311) 40 [.agg [.own (w.seats.map rM), .own (w.waits.map rWt), .own (w.log.map rC), .own (w.fresh.map rI), .own (w.spy.map rS), .own (w.stolen.map rSt), .own (w.frames.map rF), .own (w.said.map rI), .own (w.wins.map rWs), .own (w.told.map rT)], .int .i64 who, .int .i64 pos] [] = some (.agg [.own ((stepHear w who pos).seats.map rM), .own ((stepHear w who pos).waits.map rWt), .own ((stepHear w who pos).log.map rC), .own ((stepHear w who pos).fresh.map rI), .own ((stepHear w who pos).spy.map rS), .own ((stepHear w who pos).stolen.map rSt), .own ((stepHear w who pos).frames.map rF), .own ((stepHear w who pos).said.map rI), .own ((stepHear w who pos).wins.map rWs), .own ((stepHear w who pos).told.map rT)], []) := by
  rw [eq_40]
  have z8 := z.seats8
  have w0 := hw.1
  have w1 : who < w.seats.length := by have := hw.2; omega
  have p0 := hp.1
  have p1 := hp.2
  obtain ⟨a1, a2, a3, a4, a5⟩ := z.seat _ (ixm w.seats who w0 w1)
  obtain ⟨b1, b2, b3⟩ := z.cmt _ (ixm w.log pos p0 p1)
  unfold stepHear
  generalize hm : ix w.seats who = m at a1 a2 a3 a4 a5
  generalize hc : ix w.log pos = c at b1 b2 b3
  have h := t_MemHear L D hL m.inn m.who m.epoch m.keys m.own m.init m.tag (by omega) c.sender c.tag c.name c.add c.remove c.leaf c.keys c.boxes c.wkey c.wik c.wis c.wsk c.wss (by omega)
  have e1 : (⟨m.inn, m.who, m.keys, m.own, m.epoch, m.init, m.tag⟩ : Member) = m := rfl
  have e2 : (⟨c.sender, c.tag, c.name, c.add, c.remove, c.leaf, c.keys, c.boxes, c.wkey, c.wik, c.wis, c.wsk, c.wss⟩ : Commit) = c := rfl
  rw [e1, e2] at h
  simp only [rM] at h
  generalize memHear m c = r at h
  have e3 : (⟨r.1.inn, r.1.who, r.1.keys, r.1.own, r.1.epoch, r.1.init, r.1.tag⟩ : Member) = r.1 := rfl
  cases hr : r.2 with
  | false =>
    rw [hr] at h
    simp (disch := omega) only [bnd_some', br_true', br_false', gBool_b, gInt_i, gStr_s, gSl_r, cellAt_zero, cellAt_succ, iEq_dec, iLe_dec, nrows_map, gTupN_if, gAggN_if, decide_true, if_true, if_false, Bool.false_eq_true, List.length_cons, List.length_nil, Int.reduceLE, Nat.reduceAdd, ↓dec_selfI, c_M0, c_M1, c_M2, c_M3, c_M4, c_M5, c_M6, setRow_M, rowLen_M, rowAt_M, set_M, rowZ_M, c_C0, c_C1, c_C2, c_C3, c_C4, c_C5, c_C6, c_C7, c_C8, c_C9, c_C10, c_C11, c_C12, rowAt_C, rowZ_C, hm, hc, h, hr]
  | true =>
    rw [hr] at h
    simp (disch := omega) only [bnd_some', br_true', gBool_b, gInt_i, gStr_s, gSl_r, cellAt_zero, cellAt_succ, iEq_dec, iLe_dec, nrows_map, gTupN_if, gAggN_if, decide_true, if_true, List.length_cons, List.length_nil, Int.reduceLE, Nat.reduceAdd, ↓dec_selfI, c_M0, c_M1, c_M2, c_M3, c_M4, c_M5, c_M6, setRow_M, rowLen_M, rowAt_M, set_M, rowZ_M, c_C0, c_C1, c_C2, c_C3, c_C4, c_C5, c_C6, c_C7, c_C8, c_C9, c_C10, c_C11, c_C12, rowAt_C, rowZ_C, hm, hc, h, hr, e3, List.length_set]
    rfl
theorem t_l7Steal (hL : 1099511627776 ≤ L) (w : World) (z : WI w) (who : Int) (hw : isWho who) : ev E L (D + 311) 38 [.agg [.own (w.seats.map rM), .own (w.waits.map rWt), .own (w.log.map rC), .own (w.fresh.map rI), .own (w.spy.map rS), .own (w.stolen.map rSt), .own (w.frames.map rF), .own (w.said.map rI), .own (w.wins.map rWs), .own (w.told.map rT)], .int .i64 who] [] = some (.agg [.own ((stepSteal w who).seats.map rM), .own ((stepSteal w who).waits.map rWt), .own ((stepSteal w who).log.map rC), .own ((stepSteal w who).fresh.map rI), .own ((stepSteal w who).spy.map rS), .own ((stepSteal w who).stolen.map rSt), .own ((stepSteal w who).frames.map rF), .own ((stepSteal w who).said.map rI), .own ((stepSteal w who).wins.map rWs), .own ((stepSteal w who).told.map rT)], []) := by
  rw [eq_38]
  have z8 := z.seats8
  have zs := z.spyL
  have zt := z.stolen12
  have w0 := hw.1
  have w1 : who < w.seats.length := by have := hw.2; omega
  obtain ⟨a1, a2, a3, a4, a5⟩ := z.seat _ (ixm w.seats who w0 w1)
  unfold stepSteal
  generalize hm : ix w.seats who = m at a1 a2 a3 a4 a5
  have h := t_MemKnows L D hL m.inn m.who m.epoch m.keys m.own m.init m.tag (by omega)
  have e1 : (⟨m.inn, m.who, m.keys, m.own, m.epoch, m.init, m.tag⟩ : Member) = m := rfl
  rw [e1] at h
  have hk : (memKnows m).length ≤ 31 := by
    unfold memKnows
    split
    · simp; omega
    · simp
  cases hi : m.inn with
  | false =>
    simp (disch := omega) only [bnd_some', br_true', br_false', gBool_b, bNot_t, bNot_f, iEq_dec, nrows_map, ↓dec_selfI, c_M0, rowAt_M, rowZ_M, hm, hi]
    simp
  | true =>
    rw [hi] at h
    by_cases h12 : w.stolen.length = 12
    · have h12' : (w.stolen.length : Int) = 12 := by omega
      have hd : decide ((w.stolen.length : Int) = 12) = true := decide_eq_true h12'
      simp (disch := omega) only [bnd_some', br_true', gBool_b, bNot_t, bNot_f, iEq_dec, nrows_map, Bool.true_eq_false, ↓dec_selfI, c_M0, rowAt_M, rowZ_M, hm, hi, hd]
      simp [h12]
    · have h12' : ¬ (w.stolen.length : Int) = 12 := by omega
      simp (disch := omega) only [bnd_some', br_true', br_false', gBool_b, gInt_i, gStr_s, gSl_r, bNot_t, bNot_f, beq_self_eq_true, iEq_dec, bAnd_r, nrows_map, nrows_nil, nrows_cons, catR_map, decide_false, Bool.true_eq_false, List.length_cons, List.length_nil, Nat.reduceAdd, okR_S, okR_St, okR_cons, okR_nil, Bool.and_self, ↓dec_selfI, c_M0, c_M1, c_M2, c_M3, c_M4, c_M5, c_M6, rowAt_M, rowZ_M, cat1_St, hm, hi, h12', h, fits_true]
      simp [h12]
theorem t_l7Say (hL : 1099511627776 ≤ L) (w : World) (z : WI w) (who : Int) (hw : isWho who) (x : S) : ev E L (D + 311) 39 [.agg [.own (w.seats.map rM), .own (w.waits.map rWt), .own (w.log.map rC), .own (w.fresh.map rI), .own (w.spy.map rS), .own (w.stolen.map rSt), .own (w.frames.map rF), .own (w.said.map rI), .own (w.wins.map rWs), .own (w.told.map rT)], .int .i64 who, .str (bs x)] [] = some (.agg [.own ((stepSay w who x).seats.map rM), .own ((stepSay w who x).waits.map rWt), .own ((stepSay w who x).log.map rC), .own ((stepSay w who x).fresh.map rI), .own ((stepSay w who x).spy.map rS), .own ((stepSay w who x).stolen.map rSt), .own ((stepSay w who x).frames.map rF), .own ((stepSay w who x).said.map rI), .own ((stepSay w who x).wins.map rWs), .own ((stepSay w who x).told.map rT)], []) := by
  rw [eq_39]
  have z8 := z.seats8
  have zs := z.said8
  have zf := z.frames40
  have w0 := hw.1
  have w1 : who < w.seats.length := by have := hw.2; omega
  have w2 : who < w.said.length := by have := hw.2; omega
  obtain ⟨a1, a2, a3, a4, a5⟩ := z.seat _ (ixm w.seats who w0 w1)
  obtain ⟨s0, s1⟩ := z.saidR _ (ixm w.said who w0 w2)
  unfold stepSay
  generalize hm : ix w.seats who = m at a1 a2 a3 a4 a5
  generalize hs : ix w.said who = s at s0 s1
  by_cases h40 : w.frames.length = 40
  · have h' : (w.frames.length : Int) = 40 := by omega
    have hd : decide (¬ (w.frames.length : Int) = 40) = false := decide_eq_false (fun x => x h')
    simp (disch := omega) only [br_true', br_false', bNot_dec, iEq_dec, nrows_map, ↓dec_selfI, hd]
    simp [h40]
  have h40' : ¬ (w.frames.length : Int) = 40 := by omega
  by_cases h999 : s = 999
  · have hd : decide (s = 999) = true := decide_eq_true h999
    simp (disch := omega) only [bnd_some', br_true', gInt_i, bNot_f, iEq_dec, nrows_map, decide_false, ↓dec_selfI, c_I0, rowAt_I, rowZ_I, h40', hs, hd]
    simp [h999]
  rw [if_neg (fun x => x.elim h40 h999)]
  have h := t_FraMake L D hL m.inn m.who m.epoch m.keys m.own m.init m.tag (by omega) (s + 1) x
  have e1 : (⟨m.inn, m.who, m.keys, m.own, m.epoch, m.init, m.tag⟩ : Member) = m := rfl
  rw [e1] at h
  cases hf : fraMake m (s + 1) x with
  | none =>
    rw [hf] at h
    simp only [rF] at h
    simp (disch := omega) only [bnd_some', br_true', br_false', gBool_b, gInt_i, gStr_s, gSl_r, cellAt_zero, cellAt_succ, bNot_f, beq_self_eq_true, iEq_dec, iLe_dec, bAnd_t, nrows_map, nrows_nil, nrows_cons, gTupN_if, gAggN_if, decide_true, decide_false, if_true, List.length_cons, List.length_nil, Int.reduceLE, Nat.reduceAdd, okR_F, okR_cons, okR_nil, Bool.and_self, ↓dec_selfI, c_I0, setRow_I, rowLen_I, rowAt_I, set_I, rowZ_I, c_M0, c_M1, c_M2, c_M3, c_M4, c_M5, c_M6, rowAt_M, rowZ_M, cat1_F, h40', hs, h999, hm, iAdd_w, h]
  | some f =>
    rw [hf] at h
    simp only [rF] at h
    have e3 : (⟨f.src, f.key, f.n, f.text⟩ : Frame) = f := rfl
    simp (disch := omega) only [bnd_some', br_true', br_false', gBool_b, gInt_i, gStr_s, gSl_r, cellAt_zero, cellAt_succ, bNot_f, beq_self_eq_true, iEq_dec, iLe_dec, bAnd_r, nrows_map, nrows_nil, nrows_cons, gTupN_if, gAggN_if, decide_true, decide_false, if_true, List.length_cons, List.length_nil, Int.reduceLE, Nat.reduceAdd, okR_F, okR_cons, okR_nil, Bool.and_self, ↓dec_selfI, c_I0, setRow_I, rowLen_I, rowAt_I, set_I, rowZ_I, c_M0, c_M1, c_M2, c_M3, c_M4, c_M5, c_M6, rowAt_M, rowZ_M, cat1_F, h40', hs, h999, hm, iAdd_w, h, e3, fits_true, List.length_set]
    rfl
theorem t_l7Get (hL : 1099511627776 ≤ L) (w : World) (z : WI w) (who pos : Int) (hw : isWho who) (hp : 0 ≤ pos ∧ pos < w.frames.length) : ev E L (D + 311) 42 [.agg [.own (w.seats.map rM), .own (w.waits.map rWt), .own (w.log.map rC), .own (w.fresh.map rI), .own (w.spy.map rS), .own (w.stolen.map rSt), .own (w.frames.map rF), .own (w.said.map rI), .own (w.wins.map rWs), .own (w.told.map rT)], .int .i64 who, .int .i64 pos] [] = some (.agg [.own ((stepGet w who pos).seats.map rM), .own ((stepGet w who pos).waits.map rWt), .own ((stepGet w who pos).log.map rC), .own ((stepGet w who pos).fresh.map rI), .own ((stepGet w who pos).spy.map rS), .own ((stepGet w who pos).stolen.map rSt), .own ((stepGet w who pos).frames.map rF), .own ((stepGet w who pos).said.map rI), .own ((stepGet w who pos).wins.map rWs), .own ((stepGet w who pos).told.map rT)], []) := by
  rw [eq_42]
  have z8 := z.seats8
  have z9 := z.wins8
  have zt := z.told320
  have w0 := hw.1
  have w1 : who < w.seats.length := by have := hw.2; omega
  have w2 : who < w.wins.length := by have := hw.2; omega
  have p0 := hp.1
  have p1 := hp.2
  obtain ⟨a1, a2, a3, a4, a5⟩ := z.seat _ (ixm w.seats who w0 w1)
  obtain ⟨q1, q2⟩ := z.sz.win _ (ixm w.wins who w0 w2)
  unfold stepGet
  generalize hm : ix w.seats who = m at a1 a2 a3 a4 a5
  generalize hs : ix w.wins who = s at q1 q2
  generalize hf : ix w.frames pos = f
  by_cases h320 : w.told.length = 320
  · have h' : (w.told.length : Int) = 320 := by omega
    have hd : decide ((w.told.length : Int) = 320) = true := decide_eq_true h'
    simp (disch := omega) only [br_true', iEq_dec, nrows_map, ↓dec_selfI, hd]
    simp [h320]
  have h320' : ¬ (w.told.length : Int) = 320 := by omega
  rw [if_neg h320]
  have h := t_l6Get L (D + 1) hL m.inn m.who m.epoch m.keys m.own m.init m.tag a1 s (by omega) q2 f.src f.key f.n f.text
  have e1 : (⟨m.inn, m.who, m.keys, m.own, m.epoch, m.init, m.tag⟩ : Member) = m := rfl
  have e2 : (⟨f.src, f.key, f.n, f.text⟩ : Frame) = f := rfl
  rw [e1, e2] at h
  cases hg : fraGet m s f with
  | none =>
    rw [hg] at h
    simp (disch := omega) only [bnd_some', br_true', br_false', gBool_b, gInt_i, gStr_s, gSl_r, cellAt_zero, cellAt_succ, beq_self_eq_true, iEq_dec, iLe_dec, bAnd_t, nrows_map, nrows_nil, nrows_cons, gTupN_if, decide_true, decide_false, if_true, List.length_cons, List.length_nil, Int.reduceLE, Nat.reduceAdd, okR_T, okR_cons, okR_nil, Bool.and_self, ↓dec_selfI, c_M0, c_M1, c_M2, c_M3, c_M4, c_M5, c_M6, rowAt_M, rowZ_M, c_F0, c_F1, c_F2, c_F3, rowAt_F, rowZ_F, c_Ws0, setRow_Ws, rowLen_Ws, rowAt_Ws, set_Ws, rowZ_Ws, cat1_T, h320', hm, hs, hf, h]
  | some x =>
    rw [hg] at h
    simp (disch := omega) only [bnd_some', br_true', br_false', gBool_b, gInt_i, gStr_s, gSl_r, cellAt_zero, cellAt_succ, beq_self_eq_true, iEq_dec, iLe_dec, bAnd_r, nrows_map, nrows_nil, nrows_cons, gTupN_if, decide_true, decide_false, if_true, List.length_cons, List.length_nil, Int.reduceLE, Nat.reduceAdd, okR_T, okR_cons, okR_nil, Bool.and_self, ↓dec_selfI, c_M0, c_M1, c_M2, c_M3, c_M4, c_M5, c_M6, rowAt_M, rowZ_M, c_F0, c_F1, c_F2, c_F3, rowAt_F, rowZ_F, c_Ws0, setRow_Ws, rowLen_Ws, rowAt_Ws, set_Ws, rowZ_Ws, cat1_T, h320', hm, hs, hf, h, fits_true, List.length_set]
    rfl
end
end Kw
namespace Kw
open Go Go.Proofs
def goneGo (p : Nat) : List Wait → Nat → List Wait
  | [], _ => []
  | x :: r, k => (if k = p then [] else [x]) ++ goneGo p r (k + 1)
theorem goneGo_past (p : Nat) : ∀ (l : List Wait) (k : Nat), p < k → goneGo p l k = l
  | [], _, _ => rfl
  | x :: r, k, h => by rw [goneGo, if_neg (by omega), goneGo_past p r (k + 1) (by omega)]; rfl
theorem goneGo_erase (p : Nat) : ∀ (l : List Wait) (k : Nat), k ≤ p → goneGo p l k = l.eraseIdx (p - k)
  | [], _, _ => by simp [goneGo]
  | x :: r, k, h => by
    rw [goneGo]
    by_cases e : k = p
    · subst e; rw [if_pos rfl, goneGo_past _ r (k + 1) (by omega)]; simp
    · rw [if_neg e, goneGo_erase p r (k + 1) (by omega), show p - k = (p - (k + 1)) + 1 by omega]; rfl
section
variable (L D : Nat)
theorem lp_l7Gone (hL : 1099511627776 ≤ L) (w : World) (z : WSz w) (p : Nat) : ∀ (n k : Nat) (acc : List Wait), w.waits.length - k < n → k ≤ w.waits.length → acc.length ≤ k →
    LP_65_3 L D n (w.seats.map rM) (w.waits.map rWt) (w.log.map rC) (w.fresh.map rI) (w.spy.map rS) (w.stolen.map rSt) (w.frames.map rF) (w.said.map rI) (w.wins.map rWs) (w.told.map rT) [] [] [] [] [] [] [] [] [] [] (acc.map rWt) w.seats.length w.waits.length w.log.length w.fresh.length w.spy.length w.stolen.length w.frames.length w.said.length w.wins.length w.told.length 0 0 0 0 0 0 0 0 0 0 p acc.length k = some (.agg [.own (({ w with waits := acc ++ goneGo p (w.waits.drop k) k }).seats.map rM), .own (({ w with waits := acc ++ goneGo p (w.waits.drop k) k }).waits.map rWt), .own (({ w with waits := acc ++ goneGo p (w.waits.drop k) k }).log.map rC), .own (({ w with waits := acc ++ goneGo p (w.waits.drop k) k }).fresh.map rI), .own (({ w with waits := acc ++ goneGo p (w.waits.drop k) k }).spy.map rS), .own (({ w with waits := acc ++ goneGo p (w.waits.drop k) k }).stolen.map rSt), .own (({ w with waits := acc ++ goneGo p (w.waits.drop k) k }).frames.map rF), .own (({ w with waits := acc ++ goneGo p (w.waits.drop k) k }).said.map rI), .own (({ w with waits := acc ++ goneGo p (w.waits.drop k) k }).wins.map rWs), .own (({ w with waits := acc ++ goneGo p (w.waits.drop k) k }).told.map rT)], []) := by
  intro n
  induction n with
  | zero => intro k acc h; omega
  | succ n ih =>
    intro k acc hn hk ha
    rw [LP_65_3_succ]
    have z1 := z.waits
    by_cases h : k < w.waits.length
    case neg =>
      have h' : ¬ (k : Int) < w.waits.length := by omega
      simp (disch := omega) only [br_true', br_false', iEq_dec, iLt_dec, nrows_map, decide_false, ↓dec_selfI, h']
      rw [List.drop_eq_nil_of_le (by omega)]; simp [goneGo]
    have h' : (k : Int) < w.waits.length := by omega
    rw [ix_drop w.waits k h, goneGo]
    by_cases h1 : k = p
    · have h1' : (k : Int) = p := by omega
      have hd : decide (¬ (k : Int) = p) = false := decide_eq_false (fun x => x h1')
      have := ih (k + 1) acc (by omega) (by omega) (by omega)
      simp (disch := omega) only [br_true', br_false', bNot_dec, iEq_dec, iLt_dec, nrows_map, decide_true, ↓dec_selfI, h', hd, iAdd_n1, this]
      rw [if_pos h1]; rfl
    · have h1' : ¬ (k : Int) = p := by omega
      have := ih (k + 1) (acc ++ [ix w.waits (k : Int)]) (by omega) (by omega) (by simp; omega)
      have e1 : (⟨(ix w.waits (k : Int)).who, (ix w.waits (k : Int)).pos, (ix w.waits (k : Int)).leaf, (ix w.waits (k : Int)).key⟩ : Wait) = ix w.waits (k : Int) := rfl
      simp (disch := omega) only [bnd_some', br_true', gInt_i, gStr_s, bNot_f, beq_self_eq_true, iEq_dec, iLt_dec, bAnd_r, nrows_map, nrows_nil, nrows_cons, decide_true, decide_false, List.length_cons, List.length_nil, Nat.reduceAdd, okR_Wt, okR_cons, okR_nil, Bool.and_self, ↓dec_selfI, c_Wt0, c_Wt1, c_Wt2, c_Wt3, cat1_Wt, rowAt_Wt, rowZ_Wt, h', h1', fits_true, e1, iAdd_n1, this]
      rw [if_neg h1]; simp
theorem t_l7Gone (hL : 1099511627776 ≤ L) (w : World) (z : WSz w) (p : Nat) : ev E L (D + 1) 65 [.agg [.own (w.seats.map rM), .own (w.waits.map rWt), .own (w.log.map rC), .own (w.fresh.map rI), .own (w.spy.map rS), .own (w.stolen.map rSt), .own (w.frames.map rF), .own (w.said.map rI), .own (w.wins.map rWs), .own (w.told.map rT)], .int .i64 p] [] = some (.agg [.own (({ w with waits := w.waits.eraseIdx p }).seats.map rM), .own (({ w with waits := w.waits.eraseIdx p }).waits.map rWt), .own (({ w with waits := w.waits.eraseIdx p }).log.map rC), .own (({ w with waits := w.waits.eraseIdx p }).fresh.map rI), .own (({ w with waits := w.waits.eraseIdx p }).spy.map rS), .own (({ w with waits := w.waits.eraseIdx p }).stolen.map rSt), .own (({ w with waits := w.waits.eraseIdx p }).frames.map rF), .own (({ w with waits := w.waits.eraseIdx p }).said.map rI), .own (({ w with waits := w.waits.eraseIdx p }).wins.map rWs), .own (({ w with waits := w.waits.eraseIdx p }).told.map rT)], []) := by
  rw [eq_65]
  have := lp_l7Gone L D hL w z p L 0 [] (by have := z.waits; omega) (by omega) (by simp)
  simp only [nrows_map, nrows_nil]
  rw [List.drop_zero, List.nil_append, goneGo_erase p _ 0 (by omega)] at this
  exact this
theorem lp_l7Join (hL : 1099511627776 ≤ L) (w : World) (z : WI w) (who pos : Int) (hw : isWho who) (hp : 0 ≤ pos ∧ pos < w.log.length) : ∀ (n k : Nat), w.waits.length - k < n → k ≤ w.waits.length →
    LP_41_4 L (D + 310) n (w.seats.map rM) (w.waits.map rWt) (w.log.map rC) (w.fresh.map rI) (w.spy.map rS) (w.stolen.map rSt) (w.frames.map rF) (w.said.map rI) (w.wins.map rWs) (w.told.map rT) [] [] [] [] [] [] [] [] [] [] w.seats.length w.waits.length w.log.length w.fresh.length w.spy.length w.stolen.length w.frames.length w.said.length w.wins.length w.told.length 0 0 0 0 0 0 0 0 0 0 who pos k = some (.agg [.own ((joinGo w who pos (w.waits.drop k) k).seats.map rM), .own ((joinGo w who pos (w.waits.drop k) k).waits.map rWt), .own ((joinGo w who pos (w.waits.drop k) k).log.map rC), .own ((joinGo w who pos (w.waits.drop k) k).fresh.map rI), .own ((joinGo w who pos (w.waits.drop k) k).spy.map rS), .own ((joinGo w who pos (w.waits.drop k) k).stolen.map rSt), .own ((joinGo w who pos (w.waits.drop k) k).frames.map rF), .own ((joinGo w who pos (w.waits.drop k) k).said.map rI), .own ((joinGo w who pos (w.waits.drop k) k).wins.map rWs), .own ((joinGo w who pos (w.waits.drop k) k).told.map rT)], []) := by
  intro n
  induction n with
  | zero => intro k h; omega
  | succ n ih =>
    intro k hn hk
    rw [LP_41_4_succ]
    have z1 := z.sz.waits
    have z8 := z.seats8
    have w0 := hw.1
    have w1 : who < w.seats.length := by have := hw.2; omega
    have p0 := hp.1
    have p1 := hp.2
    by_cases h : k < w.waits.length
    case neg =>
      have h' : ¬ (k : Int) < w.waits.length := by omega
      simp (disch := omega) only [br_true', br_false', iEq_dec, iLt_dec, nrows_map, decide_false, ↓dec_selfI, h']
      rw [List.drop_eq_nil_of_le (by omega)]; rfl
    have h' : (k : Int) < w.waits.length := by omega
    have next := ih (k + 1) (by omega) (by omega)
    rw [ix_drop w.waits k h, joinGo]
    generalize hx : ix w.waits (k : Int) = x
    by_cases h1 : x.who = who
    case neg =>
      rw [if_neg (fun y => h1 y.1)]
      simp (disch := omega) only [bnd_some', br_true', br_false', gInt_i, gStr_s, iEq_dec, iLt_dec, nrows_map, decide_true, decide_false, ↓dec_selfI, c_Wt0, c_Wt1, c_Wt2, c_Wt3, rowAt_Wt, rowZ_Wt, h', hx, h1, iAdd_n1, next]
    have hd1 : decide (x.who = who) = true := decide_eq_true h1
    by_cases h2 : x.pos = pos
    case neg =>
      rw [if_neg (fun y => h2 y.2)]
      simp (disch := omega) only [bnd_some', br_true', br_false', gInt_i, gStr_s, iEq_dec, iLt_dec, nrows_map, decide_true, decide_false, ↓dec_selfI, c_Wt0, c_Wt1, c_Wt2, c_Wt3, rowAt_Wt, rowZ_Wt, h', hx, hd1, h2, iAdd_n1, next]
    have hd2 : decide (x.pos = pos) = true := decide_eq_true h2
    rw [if_pos ⟨h1, h2⟩]
    obtain ⟨b1, b2, b3⟩ := z.cmt _ (ixm w.log pos p0 p1)
    generalize hc : ix w.log pos = c at b1 b2 b3
    have hj := t_MemJoin L D hL who x.leaf x.key c.sender c.tag c.name c.add c.remove c.leaf c.keys c.boxes c.wkey c.wik c.wis c.wsk c.wss (by omega)
    have e2 : (⟨c.sender, c.tag, c.name, c.add, c.remove, c.leaf, c.keys, c.boxes, c.wkey, c.wik, c.wis, c.wsk, c.wss⟩ : Commit) = c := rfl
    rw [e2] at hj
    cases hm : memJoin who x.leaf x.key c with
    | none =>
      rw [hm] at hj
      simp only [rM] at hj
      simp (disch := omega) only [bnd_some', br_true', br_false', gBool_b, gInt_i, gStr_s, gSl_r, cellAt_zero, cellAt_succ, iEq_dec, iLt_dec, iLe_dec, nrows_map, gTupN_if, gAggN_if, decide_true, if_true, List.length_cons, List.length_nil, Int.reduceLE, Nat.reduceAdd, ↓dec_selfI, setRow_M, rowLen_M, rowAt_M, set_M, rowZ_M, c_C0, c_C1, c_C2, c_C3, c_C4, c_C5, c_C6, c_C7, c_C8, c_C9, c_C10, c_C11, c_C12, rowAt_C, rowZ_C, c_Wt0, c_Wt1, c_Wt2, c_Wt3, rowAt_Wt, rowZ_Wt, h', hx, hd1, hd2, hc, hj, iAdd_n1, next]
    | some m =>
      rw [hm] at hj
      simp only [rM] at hj
      have e3 : (⟨m.inn, m.who, m.keys, m.own, m.epoch, m.init, m.tag⟩ : Member) = m := rfl
      have zz : WSz { w with seats := set1 w.seats who m } := { z.sz with
        seats := by have := z.sz.seats; simp [set1]; omega
        seat := fun q hq => by
          rcases List.mem_or_eq_of_mem_set hq with hq | hq
          · exact z.sz.seat q hq
          · subst hq
            unfold memJoin at hm
            split at hm
            · rename_i g
              cases hm
              have hk := treOk_len (cmtOk_parts g.1).2.2.2.2.2.1
              have hpl := secPath_len (treMeet (treLeaf who) (treLeaf c.sender)) c.wss
              have htu := treUp_len (treMeet (treLeaf who) (treLeaf c.sender))
              refine ⟨by simp [joinM]; omega, by simp [joinM]; omega, fun x => by cases x⟩
            · cases hm }
      have hg := t_l7Gone L (D + 309) hL { w with seats := set1 w.seats who m } zz k
      simp only [set1] at hg
      simp (disch := omega) only [bnd_some', br_true', gBool_b, gInt_i, gStr_s, gSl_r, gOwn_r, cellAt_zero, cellAt_succ, iEq_dec, iLt_dec, iLe_dec, nrows_map, gTupN_if, gAggN_if, decide_true, if_true, List.length_cons, List.length_nil, Int.reduceLE, Nat.reduceAdd, ↓dec_selfI, setRow_M, rowLen_M, rowAt_M, set_M, rowZ_M, c_C0, c_C1, c_C2, c_C3, c_C4, c_C5, c_C6, c_C7, c_C8, c_C9, c_C10, c_C11, c_C12, rowAt_C, rowZ_C, c_Wt0, c_Wt1, c_Wt2, c_Wt3, rowAt_Wt, rowZ_Wt, h', hx, hd1, hd2, hc, hj, e3, List.length_set, hg]
      rfl
theorem t_l7Join (hL : 1099511627776 ≤ L) (w : World) (z : WI w) (who pos : Int) (hw : isWho who) (hp : 0 ≤ pos ∧ pos < w.log.length) : ev E L (D + 311) 41 [.agg [.own (w.seats.map rM), .own (w.waits.map rWt), .own (w.log.map rC), .own (w.fresh.map rI), .own (w.spy.map rS), .own (w.stolen.map rSt), .own (w.frames.map rF), .own (w.said.map rI), .own (w.wins.map rWs), .own (w.told.map rT)], .int .i64 who, .int .i64 pos] [] = some (.agg [.own ((stepJoin w who pos).seats.map rM), .own ((stepJoin w who pos).waits.map rWt), .own ((stepJoin w who pos).log.map rC), .own ((stepJoin w who pos).fresh.map rI), .own ((stepJoin w who pos).spy.map rS), .own ((stepJoin w who pos).stolen.map rSt), .own ((stepJoin w who pos).frames.map rF), .own ((stepJoin w who pos).said.map rI), .own ((stepJoin w who pos).wins.map rWs), .own ((stepJoin w who pos).told.map rT)], []) := by
  rw [eq_41]
  have z8 := z.seats8
  have w0 := hw.1
  have w1 : who < w.seats.length := by have := hw.2; omega
  unfold stepJoin
  cases hi : (ix w.seats who).inn with
  | true =>
    simp (disch := omega) only [bnd_some', br_true', gBool_b, iEq_dec, nrows_map, nrows_nil, if_true, ↓dec_selfI, c_M0, rowAt_M, rowZ_M, hi]
  | false =>
    have := lp_l7Join L D hL w z who pos hw hp L 0 (by have := z.sz.waits; omega) (by omega)
    simp (disch := omega) only [bnd_some', br_true', br_false', gBool_b, iEq_dec, nrows_map, nrows_nil, if_false, Bool.false_eq_true, ↓dec_selfI, c_M0, rowAt_M, rowZ_M, hi]
    exact this
end
end Kw
namespace Kw
open Go Go.Proofs
section
variable (L D : Nat)
theorem ix_set_rng (l : List Int) (i j v : Int) (P : Int → Prop) (hl : ∀ x ∈ l, P x) (hv : P v) (h0 : 0 ≤ j) (h1 : j < l.length) : P (ix (set1 l i v) j) := by
  have := ixm (set1 l i v) j h0 (by simp [set1]; exact h1)
  rcases List.mem_or_eq_of_mem_set this with h | h
  · exact hl _ h
  · rw [h]; exact hv
theorem jp_l7Commit (hL : 1099511627776 ≤ L) (w : World) (z : WI w) (e : Event) (hw : isWho e.who) (ha : inR e.add) (hlg : w.log.length ≠ 16) (lf ky : S) :
    JP_37_11 L (D + 310) (w.seats.map rM) (w.waits.map rWt) (w.log.map rC) (w.fresh.map rI) (w.spy.map rS) (w.stolen.map rSt) (w.frames.map rF) (w.said.map rI) (w.wins.map rWs) (w.told.map rT) [] [] [] [] [] [] [] [] [] [] w.seats.length w.waits.length w.log.length w.fresh.length w.spy.length w.stolen.length w.frames.length w.said.length w.wins.length w.told.length e.kind e.who e.add e.remove e.pos (bs e.text) 0 0 0 0 0 0 0 0 0 0 e.add w.log.length (bs lf) (bs ky) (bs (makKey lf)) (bs (makKey ky)) = some (.agg [.own ((commitEnd w e lf ky).seats.map rM), .own ((commitEnd w e lf ky).waits.map rWt), .own ((commitEnd w e lf ky).log.map rC), .own ((commitEnd w e lf ky).fresh.map rI), .own ((commitEnd w e lf ky).spy.map rS), .own ((commitEnd w e lf ky).stolen.map rSt), .own ((commitEnd w e lf ky).frames.map rF), .own ((commitEnd w e lf ky).said.map rI), .own ((commitEnd w e lf ky).wins.map rWs), .own ((commitEnd w e lf ky).told.map rT)], []) := by
  rw [JP_37_11_eq]
  have z8 := z.seats8
  have zf := z.fresh8
  have zw := z.waitsL
  have zl := z.log16
  have w0 := hw.1
  have w1 : e.who < w.seats.length := by have := hw.2; omega
  have w2 : e.who < w.fresh.length := by have := hw.2; omega
  obtain ⟨a1, a2, a3, a4, a5⟩ := z.seat _ (ixm w.seats e.who w0 w1)
  obtain ⟨f0, f1⟩ := z.freshR _ (ixm w.fresh e.who w0 w2)
  unfold commitEnd
  generalize hm : ix w.seats e.who = m at a1 a2 a3 a4 a5
  generalize hf : ix w.fresh e.who = f at f0 f1
  have h := t_MemCommit L D hL m.inn m.who m.epoch m.keys m.own m.init m.tag (by omega) (makNew e.who (f + 1)) e.add e.remove (makKey lf) (makKey ky) (by omega)
  have e1 : (⟨m.inn, m.who, m.keys, m.own, m.epoch, m.init, m.tag⟩ : Member) = m := rfl
  rw [e1] at h
  cases hc : memCommit m (makNew e.who (f + 1)) e.add e.remove (makKey lf) (makKey ky) with
  | none =>
    rw [hc] at h
    simp only [rM, rC] at h
    simp (disch := omega) only [bnd_some', br_true', gBool_b, gInt_i, gStr_s, gSl_r, cellAt_zero, cellAt_succ, bNot_f, iEq_dec, nrows_map, gTupN_if, gAggN_if, if_true, List.length_cons, List.length_nil, Nat.reduceAdd, ↓dec_selfI, c_I0, rowAt_I, rowZ_I, c_M0, c_M1, c_M2, c_M3, c_M4, c_M5, c_M6, rowAt_M, rowZ_M, hm, hf, iAdd_w, t_MakNew _ _ hL, h]
  | some p =>
    obtain ⟨x, c⟩ := p
    rw [hc] at h
    simp only [rM, rC] at h
    have e2 : (⟨x.inn, x.who, x.keys, x.own, x.epoch, x.init, x.tag⟩ : Member) = x := rfl
    have e3 : (⟨c.sender, c.tag, c.name, c.add, c.remove, c.leaf, c.keys, c.boxes, c.wkey, c.wik, c.wis, c.wsk, c.wss⟩ : Commit) = c := rfl
    by_cases h0 : 0 ≤ e.add
    · have ha1 := ha.2
      have w3 : e.add < (w.fresh.set e.who.toNat (f + 1)).length := by rw [List.length_set]; omega
      have hr := ix_set_rng w.fresh e.who e.add (f + 1) (fun x => 0 ≤ x ∧ x ≤ 1000) (fun x hx => by have := z.freshR x hx; omega) (by omega) h0 (by omega)
      unfold set1 at hr
      obtain ⟨r0, r1⟩ := hr
      simp (disch := omega) only [bnd_some', br_true', br_false', gBool_b, gInt_i, gStr_s, gSl_r, cellAt_zero, cellAt_succ, bNot_t, beq_self_eq_true, iEq_dec, iLe_dec, bAnd_r, nrows_map, nrows_nil, nrows_cons, gTupN_if, gAggN_if, decide_true, if_true, List.length_cons, List.length_nil, Int.reduceLE, Nat.reduceAdd, okR_C, okR_Wt, okR_cons, okR_nil, Bool.and_self, ↓dec_selfI, c_I0, setRow_I, rowLen_I, rowAt_I, set_I, rowZ_I, c_M0, c_M1, c_M2, c_M3, c_M4, c_M5, c_M6, setRow_M, rowLen_M, rowAt_M, set_M, rowZ_M, cat1_C, cat1_Wt, hm, hf, iAdd_w, t_MakNew _ _ hL, h, e2, e3, fits_true, h0, List.length_set]
      rfl
    · simp (disch := omega) only [bnd_some', br_true', br_false', gBool_b, gInt_i, gStr_s, gSl_r, cellAt_zero, cellAt_succ, bNot_t, beq_self_eq_true, iEq_dec, iLe_dec, bAnd_r, nrows_map, nrows_nil, nrows_cons, gTupN_if, gAggN_if, decide_true, decide_false, if_true, if_false, List.length_cons, List.length_nil, Int.reduceLE, Nat.reduceAdd, okR_C, okR_cons, okR_nil, Bool.and_self, ↓dec_selfI, c_I0, setRow_I, rowLen_I, rowAt_I, set_I, rowZ_I, c_M0, c_M1, c_M2, c_M3, c_M4, c_M5, c_M6, setRow_M, rowLen_M, rowAt_M, set_M, rowZ_M, cat1_C, hm, hf, iAdd_w, t_MakNew _ _ hL, h, e2, e3, fits_true, h0, List.length_set]
      rfl
theorem t_l7Commit (hL : 1099511627776 ≤ L) (w : World) (z : WI w) (e : Event) (hw : isWho e.who) : ev E L (D + 311) 37 [.agg [.own (w.seats.map rM), .own (w.waits.map rWt), .own (w.log.map rC), .own (w.fresh.map rI), .own (w.spy.map rS), .own (w.stolen.map rSt), .own (w.frames.map rF), .own (w.said.map rI), .own (w.wins.map rWs), .own (w.told.map rT)], .agg [.int .i64 e.kind, .int .i64 e.who, .int .i64 e.add, .int .i64 e.remove, .int .i64 e.pos, .str (bs e.text)]] [] = some (.agg [.own ((stepCommit w e).seats.map rM), .own ((stepCommit w e).waits.map rWt), .own ((stepCommit w e).log.map rC), .own ((stepCommit w e).fresh.map rI), .own ((stepCommit w e).spy.map rS), .own ((stepCommit w e).stolen.map rSt), .own ((stepCommit w e).frames.map rF), .own ((stepCommit w e).said.map rI), .own ((stepCommit w e).wins.map rWs), .own ((stepCommit w e).told.map rT)], []) := by
  rw [eq_37]
  have zf := z.fresh8
  have zl := z.log16
  have w0 := hw.1
  have w2 : e.who < w.fresh.length := by have := hw.2; omega
  obtain ⟨f0, f1⟩ := z.freshR _ (ixm w.fresh e.who w0 w2)
  unfold stepCommit
  have hj := fun ha hlg lf ky => jp_l7Commit L D hL w z e hw ha hlg lf ky
  generalize hf : ix w.fresh e.who = f at f0 f1
  by_cases h16 : w.log.length = 16
  · have h' : (w.log.length : Int) = 16 := by omega
    have hd : decide (¬ (w.log.length : Int) = 16) = false := decide_eq_false (fun x => x h')
    rw [if_pos (.inl h16)]
    simp (disch := omega) only [br_true', br_false', bNot_dec, iEq_dec, nrows_map, ↓dec_selfI, hd]
  have h16' : ¬ (w.log.length : Int) = 16 := by omega
  by_cases h99 : 99 ≤ f
  · rw [if_pos (.inr (.inl h99))]
    simp (disch := omega) only [bnd_some', br_true', br_false', gInt_i, bNot_t, bNot_f, iEq_dec, iLe_dec, nrows_map, decide_true, decide_false, ↓dec_selfI, c_I0, rowAt_I, rowZ_I, h16', hf, h99]
  by_cases ha : -1 ≤ e.add ∧ e.add ≤ 7
  case neg =>
    rw [if_pos (.inr (.inr (.inl ha)))]
    simp (disch := omega) only [bnd_some', br_true', br_false', gBool_b, gInt_i, bNot_t, bNot_f, iEq_dec, iLe_dec, nrows_map, decide_false, Int.reduceNeg, ↓dec_selfI, c_I0, rowAt_I, rowZ_I, h16', hf, h99, t_l1In, ha]
  obtain ⟨ha1, ha2⟩ := id ha
  have mk0 : makKey [] = [] := rfl
  by_cases h0 : 0 ≤ e.add
  · have w3 : e.add < w.fresh.length := by omega
    obtain ⟨g0, g1⟩ := z.freshR _ (ixm w.fresh e.add h0 w3)
    generalize hg : ix w.fresh e.add = g at g0 g1
    by_cases h98 : 98 ≤ g
    · rw [if_pos (.inr (.inr (.inr ⟨h0, h98⟩)))]
      simp (disch := omega) only [bnd_some', br_true', gBool_b, gInt_i, bNot_t, bNot_f, iEq_dec, iLe_dec, nrows_map, decide_true, decide_false, and_true, Int.reduceNeg, ↓dec_selfI, c_I0, rowAt_I, rowZ_I, h16', hf, h99, t_l1In, ha1, ha2, h0, hg, h98]
    · rw [if_neg (fun x => x.elim h16 fun x => x.elim h99 fun x => x.elim (fun y => y ha) fun y => h98 y.2), if_pos h0]
      simp (disch := omega) only [bnd_some', br_true', br_false', gBool_b, gInt_i, gStr_s, bNot_t, bNot_f, iEq_dec, iLe_dec, nrows_map, nrows_nil, decide_true, decide_false, and_true, Int.reduceNeg, ↓dec_selfI, c_I0, rowAt_I, rowZ_I, h16', hf, h99, t_l1In, ha1, ha2, h0, hg, h98, iAdd_w, t_MakNew _ _ hL, t_MakKey _ _ hL, hj ha h16]
  · rw [if_neg (fun x => x.elim h16 fun x => x.elim h99 fun x => x.elim (fun y => y ha) fun y => h0 y.1), if_neg h0]
    have := hj ha h16 [] []
    rw [mk0] at this
    simp (disch := omega) only [bnd_some', br_true', br_false', gBool_b, gInt_i, bNot_t, bNot_f, iEq_dec, iLe_dec, nrows_map, nrows_nil, decide_true, decide_false, and_true, Int.reduceNeg, ↓dec_selfI, c_I0, rowAt_I, rowZ_I, h16', hf, h99, t_l1In, ha1, ha2, h0, this]
theorem t_l7Step (hL : 1099511627776 ≤ L) (w : World) (z : WI w) (e : Event) : ev E L (D + 312) 28 [.agg [.own (w.seats.map rM), .own (w.waits.map rWt), .own (w.log.map rC), .own (w.fresh.map rI), .own (w.spy.map rS), .own (w.stolen.map rSt), .own (w.frames.map rF), .own (w.said.map rI), .own (w.wins.map rWs), .own (w.told.map rT)], .agg [.int .i64 e.kind, .int .i64 e.who, .int .i64 e.add, .int .i64 e.remove, .int .i64 e.pos, .str (bs e.text)]] [] = some (.agg [.own ((step w e).seats.map rM), .own ((step w e).waits.map rWt), .own ((step w e).log.map rC), .own ((step w e).fresh.map rI), .own ((step w e).spy.map rS), .own ((step w e).stolen.map rSt), .own ((step w e).frames.map rF), .own ((step w e).said.map rI), .own ((step w e).wins.map rWs), .own ((step w e).told.map rT)], []) := by
  rw [eq_28]
  unfold step
  by_cases hw : isWho e.who
  case neg =>
    have h' : ¬ (0 ≤ e.who ∧ e.who ≤ 7) := hw
    rw [if_neg hw]
    simp only [bnd_some', br_true', gBool_b, bNot_f, iEq_dec, nrows_map, decide_false, ↓dec_selfI, t_l1In, h']
  obtain ⟨w0, w1⟩ := id hw
  rw [if_pos hw]
  by_cases k1 : e.kind = 1
  · have hd : decide (e.kind = 1) = true := decide_eq_true k1
    rw [if_pos k1]
    simp only [bnd_some', br_true', br_false', gBool_b, gOwn_r, cellAt_zero, cellAt_succ, bNot_t, iEq_dec, nrows_map, gAggN_if, decide_true, if_true, and_true, List.length_cons, List.length_nil, Nat.reduceAdd, ↓dec_selfI, t_l1In, w0, w1, hd, t_l7Commit _ _ hL w z e hw]
  rw [if_neg k1]
  by_cases k4 : e.kind = 4
  · have hd : decide (e.kind = 4) = true := decide_eq_true k4
    rw [if_pos k4]
    simp only [bnd_some', br_true', br_false', gBool_b, gOwn_r, cellAt_zero, cellAt_succ, bNot_t, iEq_dec, nrows_map, gAggN_if, decide_true, decide_false, if_true, and_true, List.length_cons, List.length_nil, Nat.reduceAdd, ↓dec_selfI, t_l1In, w0, w1, k1, hd, t_l7Steal _ _ hL w z e.who hw]
  rw [if_neg k4]
  by_cases k5 : e.kind = 5
  · have hd : decide (e.kind = 5) = true := decide_eq_true k5
    rw [if_pos k5]
    simp only [bnd_some', br_true', br_false', gBool_b, gOwn_r, cellAt_zero, cellAt_succ, bNot_t, iEq_dec, nrows_map, gAggN_if, decide_true, decide_false, if_true, and_true, List.length_cons, List.length_nil, Nat.reduceAdd, ↓dec_selfI, t_l1In, w0, w1, k1, k4, hd, t_l7Say _ _ hL w z e.who hw]
  rw [if_neg k5]
  have hll : iSub .i64 (w.log.length : Int) 1 = (w.log.length : Int) - 1 := iSub_w (by omega) (by have := z.log16; omega)
  have hff : iSub .i64 (w.frames.length : Int) 1 = (w.frames.length : Int) - 1 := iSub_w (by omega) (by have := z.frames40; omega)
  by_cases k2 : e.kind = 2
  · have hd : decide (e.kind = 2) = true := decide_eq_true k2
    rw [if_pos k2]
    by_cases hp : 0 ≤ e.pos ∧ e.pos < w.log.length
    · have p0 := hp.1
      have p1 : e.pos ≤ (w.log.length : Int) - 1 := by omega
      rw [if_pos hp]
      simp only [bnd_some', br_true', br_false', gBool_b, gOwn_r, cellAt_zero, cellAt_succ, bNot_t, iEq_dec, nrows_map, gAggN_if, decide_true, decide_false, if_true, and_true, List.length_cons, List.length_nil, Nat.reduceAdd, ↓dec_selfI, t_l1In, w0, w1, k1, k4, k5, hd, hll, p0, p1, t_l7Hear _ _ hL w z e.who e.pos hw hp]
    · rw [if_neg hp]
      by_cases p0 : 0 ≤ e.pos
      · have p1 : ¬ e.pos ≤ (w.log.length : Int) - 1 := by omega
        simp only [bnd_some', br_true', br_false', gBool_b, bNot_t, bNot_f, iEq_dec, nrows_map, decide_true, decide_false, and_true, and_false, ↓dec_selfI, t_l1In, w0, w1, k1, k4, k5, hd, hll, p0, p1]
      · simp only [bnd_some', br_true', br_false', gBool_b, bNot_t, bNot_f, iEq_dec, nrows_map, decide_true, decide_false, and_true, false_and, ↓dec_selfI, t_l1In, w0, w1, k1, k4, k5, hd, hll, p0]
  rw [if_neg k2]
  by_cases k3 : e.kind = 3
  · have hd : decide (e.kind = 3) = true := decide_eq_true k3
    rw [if_pos k3]
    by_cases hp : 0 ≤ e.pos ∧ e.pos < w.log.length
    · have p0 := hp.1
      have p1 : e.pos ≤ (w.log.length : Int) - 1 := by omega
      rw [if_pos hp]
      simp only [bnd_some', br_true', br_false', gBool_b, gOwn_r, cellAt_zero, cellAt_succ, bNot_t, iEq_dec, nrows_map, gAggN_if, decide_true, decide_false, if_true, and_true, List.length_cons, List.length_nil, Nat.reduceAdd, ↓dec_selfI, t_l1In, w0, w1, k1, k4, k5, k2, hd, hll, p0, p1, t_l7Join _ _ hL w z e.who e.pos hw hp]
    · rw [if_neg hp]
      by_cases p0 : 0 ≤ e.pos
      · have p1 : ¬ e.pos ≤ (w.log.length : Int) - 1 := by omega
        simp only [bnd_some', br_true', br_false', gBool_b, bNot_t, bNot_f, iEq_dec, nrows_map, decide_true, decide_false, and_true, and_false, ↓dec_selfI, t_l1In, w0, w1, k1, k4, k5, k2, hd, hll, p0, p1]
      · simp only [bnd_some', br_true', br_false', gBool_b, bNot_t, bNot_f, iEq_dec, nrows_map, decide_true, decide_false, and_true, false_and, ↓dec_selfI, t_l1In, w0, w1, k1, k4, k5, k2, hd, hll, p0]
  rw [if_neg k3]
  by_cases k6 : e.kind = 6
  · have hd : decide (e.kind = 6) = true := decide_eq_true k6
    rw [if_pos k6]
    by_cases hp : 0 ≤ e.pos ∧ e.pos < w.frames.length
    · have p0 := hp.1
      have p1 : e.pos ≤ (w.frames.length : Int) - 1 := by omega
      rw [if_pos hp]
      simp only [bnd_some', br_true', br_false', gBool_b, gOwn_r, cellAt_zero, cellAt_succ, bNot_t, iEq_dec, nrows_map, gAggN_if, decide_true, decide_false, if_true, and_true, List.length_cons, List.length_nil, Nat.reduceAdd, ↓dec_selfI, t_l1In, w0, w1, k1, k4, k5, k2, k3, hd, hff, p0, p1, t_l7Get _ _ hL w z e.who e.pos hw hp]
    · rw [if_neg hp]
      by_cases p0 : 0 ≤ e.pos
      · have p1 : ¬ e.pos ≤ (w.frames.length : Int) - 1 := by omega
        simp only [bnd_some', br_true', br_false', gBool_b, bNot_t, iEq_dec, nrows_map, decide_true, decide_false, and_true, and_false, ↓dec_selfI, t_l1In, w0, w1, k1, k4, k5, k2, k3, hd, hff, p0, p1]
      · simp only [bnd_some', br_true', br_false', gBool_b, bNot_t, iEq_dec, nrows_map, decide_true, decide_false, and_true, false_and, ↓dec_selfI, t_l1In, w0, w1, k1, k4, k5, k2, k3, hd, hff, p0]
  rw [if_neg k6]
  simp only [bnd_some', br_true', br_false', gBool_b, bNot_t, iEq_dec, nrows_map, decide_true, decide_false, and_true, ↓dec_selfI, t_l1In, w0, w1, k1, k4, k5, k2, k3, k6]
end
end Kw
