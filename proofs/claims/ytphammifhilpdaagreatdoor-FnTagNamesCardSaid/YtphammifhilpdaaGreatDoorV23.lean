import Derived.Test.YtphammifhilpdaaGreatDoorV22
namespace Kw
open Go Go.Proofs
section
variable (L D : Nat)
def inR (n : Int) : Prop := -1 ≤ n ∧ n ≤ 7
theorem baseT_len (ks : List S) (add remove : Int) (leaf : S) : (baseT ks add remove leaf).length = ks.length := by
  unfold baseT
  simp only
  split <;> split <;> simp [clr_len]
theorem t_l4Base (hL : 1099511627776 ≤ L) (ks : List S) (h15 : ks.length = 15) (add remove : Int) (leaf : S) (ha : inR add) (hr : inR remove) : ev E L (D + 4) 104 [.agg [.own (ks.map rS)], .int .i64 add, .int .i64 remove, .str (bs leaf)] [] = some (.agg [.own ((baseT ks add remove leaf).map rS)], []) := by
  rw [eq_104]
  unfold baseT
  simp only
  by_cases h1 : 0 ≤ remove
  · have hw : isWho remove := ⟨h1, hr.2⟩
    rw [if_pos h1]
    have c15 : (clr ks remove).length = 15 := by rw [clr_len]; exact h15
    by_cases h2 : 0 ≤ add
    · have hv : isWho add := ⟨h2, ha.2⟩
      have d15 : (clr (clr ks remove) add).length = 15 := by rw [clr_len]; exact c15
      obtain ⟨g1, g2⟩ := treLeaf_rng hv
      have glt : treLeaf add < (clr (clr ks remove) add).length := by omega
      rw [if_pos h2]
      simp (disch := omega) only [bnd_some', br_true', gInt_i, gOwn_r, cellAt_zero, iEq_dec, iLe_dec, nrows_map, gAggN_if, decide_true, if_true, List.length_cons, List.length_nil, Int.reduceLE, Nat.reduceAdd, ↓dec_selfI, setRow_S, rowLen_S, rowAt_S, set_S, rowZ_S, h1, h2, t_l3Clear _ _ hL ks h15 remove hw, t_l3Clear _ _ hL _ c15 add hv, t_TreLeaf, List.length_set]
    · rw [if_neg h2]
      simp (disch := omega) only [bnd_some', br_true', br_false', gOwn_r, cellAt_zero, iEq_dec, iLe_dec, nrows_map, gAggN_if, decide_true, decide_false, if_true, List.length_cons, List.length_nil, Nat.reduceAdd, ↓dec_selfI, h1, h2, t_l3Clear _ _ hL ks h15 remove hw]
  · rw [if_neg h1]
    by_cases h2 : 0 ≤ add
    · have hv : isWho add := ⟨h2, ha.2⟩
      have d15 : (clr ks add).length = 15 := by rw [clr_len]; exact h15
      obtain ⟨g1, g2⟩ := treLeaf_rng hv
      have glt : treLeaf add < (clr ks add).length := by omega
      rw [if_pos h2]
      simp (disch := omega) only [bnd_some', br_true', br_false', gInt_i, gOwn_r, cellAt_zero, iEq_dec, iLe_dec, nrows_map, gAggN_if, decide_true, decide_false, if_true, List.length_cons, List.length_nil, Int.reduceLE, Nat.reduceAdd, ↓dec_selfI, setRow_S, rowLen_S, rowAt_S, set_S, rowZ_S, h1, h2, t_l3Clear _ _ hL ks h15 add hv, t_TreLeaf, List.length_set]
    · rw [if_neg h2]
      simp (disch := omega) only [br_true', br_false', iEq_dec, iLe_dec, nrows_map, decide_false, ↓dec_selfI, h1, h2]
theorem lp_boxes1 (ks : List S) (h15 : ks.length = 15) (own : List Own) (add : Int) (cov : List Int) (hc : ∀ x ∈ cov, 0 ≤ x ∧ x ≤ 14) (hcl : cov.length ≤ 100000) (k n3 : Nat) (hk : k + 1 < own.length) (hol : own.length ≤ 100000) : ∀ (n j : Nat) (acc : List Box), cov.length - j < n → j ≤ cov.length → acc.length + cov.length ≤ 1000000 + j →
    LP_106_7 L (D + 5) n n3 (acc.map rB) (cov.map rI) (ks.map rS) (own.map rO) add acc.length k cov.length j =
    LP_106_3 L (D + 5) n3 ((acc ++ boxesAt ks add (ix own ((k + 1 : Nat) : Int)).sec (cov.drop j)).map rB) (ks.map rS) (own.map rO) add (acc ++ boxesAt ks add (ix own ((k + 1 : Nat) : Int)).sec (cov.drop j)).length ((k + 1 : Nat) : Int) := by
  intro n
  induction n with
  | zero => intro j acc h; omega
  | succ n ih =>
    intro j acc hn hj hb
    rw [LP_106_7_succ]
    by_cases h : j < cov.length
    case neg =>
      have h' : ¬ (j : Int) < cov.length := by omega
      simp (disch := omega) only [br_true', br_false', iEq_dec, iLt_dec, nrows_map, decide_false, ↓dec_selfI, h', iAdd_n1]
      rw [List.drop_eq_nil_of_le (by omega)]
      simp [boxesAt]
    have h' : (j : Int) < cov.length := by omega
    obtain ⟨x0, x1⟩ := hc (ix cov (j : Int)) (by rw [ix_nat cov j h]; exact List.getElem_mem h)
    have hlt : ix cov (j : Int) < ks.length := by omega
    rw [ix_drop cov j h]
    have hk1 : iAdd .i64 (k : Int) 1 = ((k + 1 : Nat) : Int) := iAdd_n1 k (by omega)
    have hj1 : iAdd .i64 (j : Int) 1 = ((j + 1 : Nat) : Int) := iAdd_n1 j (by omega)
    have key : ∀ b : Box, LP_106_7 L (D + 5) n n3 ((acc ++ [b]).map rB) (cov.map rI) (ks.map rS) (own.map rO) add (acc ++ [b]).length k cov.length ((j + 1 : Nat) : Int) = _ := fun b => ih (j + 1) (acc ++ [b]) (by omega) (by omega) (by simp; omega)
    by_cases h1 : add < 0
    · have hf : boxesAt ks add (ix own ((k + 1 : Nat) : Int)).sec (ix cov (j : Int) :: cov.drop (j + 1)) = ⟨ix ks (ix cov (j : Int)), (ix own ((k + 1 : Nat) : Int)).sec⟩ :: boxesAt ks add (ix own ((k + 1 : Nat) : Int)).sec (cov.drop (j + 1)) := by simp [boxesAt, h1]
      rw [hf]
      simp (disch := omega) only [bnd_some', br_true', br_false', gInt_i, gStr_s, bNot_t, beq_self_eq_true, iEq_dec, iLt_dec, bAnd_r, nrows_map, nrows_nil, nrows_cons, decide_true, List.length_cons, List.length_nil, Nat.reduceAdd, okR_B, okR_cons, okR_nil, Bool.and_self, ↓dec_selfI, c_S0, rowZ_S, c_I0, rowAt_I, rowZ_I, c_O1, rowZ_O, cat1_B, h', h1, hk1, hj1, fits_true]
      rw [key]
      simp
    · by_cases h2 : ix cov (j : Int) = treLeaf add
      · have hf : boxesAt ks add (ix own ((k + 1 : Nat) : Int)).sec (ix cov (j : Int) :: cov.drop (j + 1)) = boxesAt ks add (ix own ((k + 1 : Nat) : Int)).sec (cov.drop (j + 1)) := by simp [boxesAt, h1, h2]
        rw [hf]
        have c1 : iEq (cov.length : Int) (nrows (cov.map rI)) = true := by simp
        have c2 : iLt (j : Int) (nrows (cov.map rI)) = true := by simpa using h'
        have c3 : iLt add 0 = false := by simpa using h1
        have c4 := rowZ_I (j : Int) cov (by omega) h'
        have c5 := rowAt_I cov (j : Int) (by omega) h'
        have c6 : iEq (ix cov (j : Int)) (treLeaf add) = true := by rw [h2]; exact iEq_self _
        rw [c1, c2, c3]
        simp only [br_true', bNot_f]
        rw [c4]
        simp only [bnd_some']
        rw [c5]
        simp only [bnd_some', c_I0, gInt_i]
        rw [t_TreLeaf]
        simp only [bnd_some', gInt_i]
        rw [c6, hj1]
        simp only [bNot_t, br_false']
        exact ih (j + 1) acc (by omega) (by omega) (by omega)
      · have hf : boxesAt ks add (ix own ((k + 1 : Nat) : Int)).sec (ix cov (j : Int) :: cov.drop (j + 1)) = ⟨ix ks (ix cov (j : Int)), (ix own ((k + 1 : Nat) : Int)).sec⟩ :: boxesAt ks add (ix own ((k + 1 : Nat) : Int)).sec (cov.drop (j + 1)) := by simp [boxesAt, h2]
        rw [hf]
        simp (disch := omega) only [bnd_some', br_true', gInt_i, gStr_s, bNot_f, beq_self_eq_true, iEq_dec, iLt_dec, bAnd_r, nrows_map, nrows_nil, nrows_cons, decide_true, decide_false, List.length_cons, List.length_nil, Nat.reduceAdd, okR_B, okR_cons, okR_nil, Bool.and_self, ↓dec_selfI, c_S0, rowZ_S, c_I0, rowAt_I, rowZ_I, c_O1, rowZ_O, cat1_B, h', h1, hk1, hj1, t_TreLeaf, h2, fits_true]
        rw [key]
        simp
theorem boxesAt_len (ks : List S) (add : Int) (s : S) (cov : List Int) : (boxesAt ks add s cov).length ≤ cov.length := by
  unfold boxesAt
  rw [List.length_map]
  exact List.length_filter_le _ _
theorem lp_boxes (hL : 1099511627776 ≤ L) (ks : List S) (h15 : ks.length = 15) (own : List Own) (add : Int) (hol : own.length ≤ 1000) (ho : ∀ k : Nat, k + 1 < own.length → 1 ≤ (ix own (k : Int)).node ∧ (ix own (k : Int)).node ≤ 14) : ∀ (n k : Nat) (acc : List Box), own.length - k < n → k ≤ own.length → acc.length + 32 * (own.length - k) ≤ 100000 →
    LP_106_3 L (D + 5) n (acc.map rB) (ks.map rS) (own.map rO) add acc.length k = some (.sl ((acc ++ boxesGo ks add (own.drop k)).map rB), []) := by
  intro n
  induction n with
  | zero => intro k acc h; omega
  | succ n ih =>
    intro k acc hn hk hb
    rw [LP_106_3_succ]
    have hk1 : iAdd .i64 (k : Int) 1 = ((k + 1 : Nat) : Int) := iAdd_n1 k (by omega)
    by_cases h : k + 1 < own.length
    case neg =>
      have h' : ¬ ((k + 1 : Nat) : Int) < own.length := by omega
      simp (disch := omega) only [br_true', br_false', iEq_dec, iLt_dec, nrows_map, decide_false, ↓dec_selfI, h', hk1]
      have : boxesGo ks add (own.drop k) = [] := by
        rcases Nat.lt_or_ge k own.length with hl | hl
        · rw [ix_drop own k hl, List.drop_eq_nil_of_le (by omega)]; rfl
        · rw [List.drop_eq_nil_of_le hl]; rfl
      rw [this, List.append_nil]
    have h' : ((k + 1 : Nat) : Int) < own.length := by omega
    obtain ⟨n1, n2⟩ := ho k h
    have hs : isNode (treSide (ix own (k : Int)).node) := by
      unfold treSide isNode
      rw [if_pos ⟨n1, n2⟩]
      split <;> omega
    have hcr : ∀ x ∈ cover ks (treSide (ix own (k : Int)).node), 0 ≤ x ∧ x ≤ 14 := coverN_rng ks 5 _ (by have := hs.1; have := hs.2; omega)
    have hcl : (cover ks (treSide (ix own (k : Int)).node)).length ≤ 32 := coverN_len ks 5 _
    simp (disch := omega) only [bnd_some', br_true', gInt_i, gOwn_r, iLt_dec, nrows_map, decide_true, c_O0, rowZ_O, h', hk1, t_TreSide, t_l3Cover _ _ ks h15 _ hs]
    have := lp_boxes1 L D ks h15 own add _ hcr (by omega) k n h (by omega) L 0 acc (by omega) (by omega) (by omega)
    rw [show ((0 : Nat) : Int) = 0 from rfl, List.drop_zero] at this
    rw [this]
    have hbl := boxesAt_len ks add (ix own ((k + 1 : Nat) : Int)).sec (cover ks (treSide (ix own (k : Int)).node))
    rw [ih (k + 1) _ (by omega) (by omega) (by rw [List.length_append]; omega)]
    rw [ix_drop own k (by omega), ix_drop own (k + 1) h, boxesGo, List.append_assoc]
theorem t_l4Boxes (hL : 1099511627776 ≤ L) (ks : List S) (h15 : ks.length = 15) (own : List Own) (add : Int) (hol : own.length ≤ 1000) (ho : ∀ k : Nat, k + 1 < own.length → 1 ≤ (ix own (k : Int)).node ∧ (ix own (k : Int)).node ≤ 14) : ev E L (D + 6) 106 [.agg [.sl (ks.map rS)], .sl (own.map rO), .int .i64 add] [] = some (.sl ((boxesGo ks add own).map rB), []) := by
  rw [eq_106]
  have := lp_boxes L D hL ks h15 own add hol ho L 0 [] (by omega) (by omega) (by simp; omega)
  exact this
theorem pathGo_map : ∀ (l : List Int) (s : S), (pathGo l s).map (·.node) = l
  | [], _ => rfl
  | a :: l, s => by rw [pathGo, List.map_cons, pathGo_map l]
theorem secPath_len (n : Int) (s : S) : (secPath n s).length = 1 + (treUp n).length := by
  have := congrArg List.length (pathGo_map (n :: treUp n) s)
  rw [List.length_map] at this
  rw [secPath, this]; simp; omega
theorem secPath_node (n : Int) (s : S) (k : Nat) (h : k < (secPath n s).length) : (ix (secPath n s) (k : Int)).node = ix (n :: treUp n) (k : Int) := by
  have e := pathGo_map (n :: treUp n) s
  have h2 : k < (n :: treUp n).length := by rw [secPath_len] at h; simp; omega
  rw [ix_nat _ _ h, ix_nat _ _ h2]
  have : ((secPath n s).map (·.node))[k]'(by simpa using h) = (n :: treUp n)[k] := by
    simp only [secPath, e]
  simpa using this
theorem ups_pos : ∀ (i : Nat), i ≤ 14 → ∀ k : Nat, k + 1 < (ups i).length → 1 ≤ ix (ups i) (k : Int) := by
  intro i
  induction i using Nat.strongRecOn with
  | ind i ih =>
    intro hi k hk
    rw [ups] at hk ⊢
    split at hk
    · simp at hk
    · rename_i h
      rw [dif_neg h]
      cases k with
      | zero =>
        show (1 : Int) ≤ (((i - 1) / 2 : Nat) : Int)
        rcases Nat.eq_zero_or_pos ((i - 1) / 2) with e | e
        · rw [e, show ups 0 = [] by rw [ups]; rfl] at hk; simp at hk
        · omega
      | succ k =>
        have := ih ((i - 1) / 2) (by omega) (by omega) k (by simp at hk; omega)
        have e : ix ((((i - 1) / 2 : Nat) : Int) :: ups ((i - 1) / 2)) ((k + 1 : Nat) : Int) = ix (ups ((i - 1) / 2)) (k : Int) := by simp [ix]
        rw [e]; exact this
theorem path_pos {n : Int} (h : 1 ≤ n ∧ n ≤ 14) : ∀ k : Nat, k + 1 < (n :: treUp n).length → 1 ≤ ix (n :: treUp n) (k : Int) ∧ ix (n :: treUp n) (k : Int) ≤ 14 := by
  intro k hk
  cases k with
  | zero => exact h
  | succ k =>
    have e : ix (n :: treUp n) ((k + 1 : Nat) : Int) = ix (treUp n) (k : Int) := by simp [ix]
    have hk' : k + 1 < (treUp n).length := by simp at hk; omega
    refine ⟨?_, ?_⟩
    · rw [e]
      have ht : treUp n = ups n.toNat := if_pos ⟨by omega, by omega⟩
      rw [ht] at hk' ⊢
      exact ups_pos _ (by omega) k hk'
    · rw [e, ix_nat _ _ (by omega)]
      exact (treUp_rng n _ (List.getElem_mem _)).2
end
end Kw
namespace Kw
open Go Go.Proofs
section
variable (L D : Nat)
theorem treMeet_rng {a b : Int} (ha : isNode a) (hb : isNode b) : 0 ≤ treMeet a b := by
  unfold treMeet
  rw [if_pos ⟨ha, hb⟩]; omega
theorem setK_len (ks : List S) (w : Int) (s : S) : (setK ks w s).length = ks.length := setGo_len _ _ _
theorem mk1_len (p s : S) : (mk1 p s).length ≤ 300 := by
  unfold mk1
  split
  · rename_i h; simp; exact h.2
  · simp
theorem t_l4Commit (hL : 1099511627776 ≤ L) (b : Bool) (w e : Int) (hw : isWho w) (ks : List S) (h15 : ks.length = 15) (own : List Own) (i t : S) (fresh : S) (add remove : Int) (leaf key : S) (ha : inR add) (hr : inR remove) (he : 0 ≤ e ∧ e ≤ 12) (ht : t.length ≤ 300) (hf : fresh.length ≤ 300) :
    ev E L (D + 309) 82 [.agg [.bool b, .int .i64 w, .sl (ks.map rS), .sl (own.map rO), .int .i64 e, .str (bs i), .str (bs t)], .str (bs fresh), .int .i64 add, .int .i64 remove, .str (bs leaf), .str (bs key)] [] =
      some (.tup [.agg (rM (commitM ⟨b, w, ks, own, e, i, t⟩ fresh add remove leaf key)), .agg (rC (commitC ⟨b, w, ks, own, e, i, t⟩ fresh add remove leaf key))], []) := by
  rw [eq_82]
  obtain ⟨l1, l2⟩ := treLeaf_rng hw
  have hb15 : (baseT ks add remove leaf).length = 15 := by rw [baseT_len]; exact h15
  have hpl := secPath_len (treLeaf w) fresh
  have htu := treUp_len (treLeaf w)
  have hpos : (0 : Int) ≤ ((secPath (treLeaf w) fresh).length : Int) - 1 := by omega
  have hlt : ((secPath (treLeaf w) fresh).length : Int) - 1 < (secPath (treLeaf w) fresh).length := by omega
  have hbox := t_l4Boxes L (D + 302) hL (baseT ks add remove leaf) hb15 (secPath (treLeaf w) fresh) add (by omega) (fun k hk => by
    rw [secPath_node _ _ k (by omega)]
    exact path_pos ⟨by omega, by omega⟩ k (by rw [hpl] at hk; simp; omega))
  have hs15 : (setK (baseT ks add remove leaf) w fresh).length = 15 := by rw [setK_len]; exact hb15
  by_cases a0 : 0 ≤ add
  · have hadd : isWho add := ⟨a0, ha.2⟩
    simp (disch := omega) only [bnd_some', br_true', gInt_i, gStr_s, gSl_r, gOwn_r, cellAt_zero, iEq_dec, iLe_dec, bAnd_r, sLen_bs, sCat_bs, nrows_map, nrows_nil, gAggN_if, decide_true, if_true, List.length_cons, List.length_nil, Nat.reduceAdd, okR_S, okR_nil, ↓dec_selfI, c_O1, rowZ_O, catR_nil, t_l3Copy, t_l4Base _ _ hL ks h15 add remove leaf ha hr, t_TreLeaf, t_l4Path _ _ hL, t_l3Set _ _ hL _ hb15 w hw, t_MakNext _ _ hL, t_MakEpoch _ _ hL, hbox, a0, t_TreMeet _ _ hL, iSub_w, iAdd_w, fits_true, t_l4Own _ _ hL]
    simp [commitM, commitC, rM, rC, a0]
  · simp (disch := omega) only [bnd_some', br_true', br_false', gInt_i, gStr_s, gSl_r, gOwn_r, cellAt_zero, iEq_dec, iLe_dec, bAnd_r, sLen_bs, sCat_bs, nrows_map, nrows_nil, gAggN_if, decide_false, if_true, List.length_cons, List.length_nil, Nat.reduceAdd, okR_S, okR_nil, ↓dec_selfI, c_O1, rowZ_O, catR_nil, t_l3Copy, t_l4Base _ _ hL ks h15 add remove leaf ha hr, t_TreLeaf, t_l4Path _ _ hL, t_l3Set _ _ hL _ hb15 w hw, t_MakNext _ _ hL, t_MakEpoch _ _ hL, hbox, a0, iSub_w, iAdd_w, fits_true]
    simp [commitM, commitC, rM, rC, a0]
theorem memOk_in {m : Member} (h : memOk m = true) (hi : m.inn = true) : isWho m.who ∧ treOk m.keys = true ∧ fitsAll m = true ∧ hasAll m = true ∧ (0 ≤ m.epoch ∧ m.epoch ≤ 12) ∧ secOk m.init = true ∧ m.tag.length ≤ 300 := by
  unfold memOk at h
  rw [if_neg (by rw [hi]; simp)] at h
  simp only [Bool.and_eq_true, decide_eq_true_eq] at h
  exact h
theorem rM_no : rM noMember = [.bool false, .int .i64 0, .sl [], .sl [], .int .i64 0, .str (bs []), .str (bs [])] := rfl
theorem rC_no : rC noCommit = [.int .i64 0, .str (bs []), .str (bs []), .int .i64 0, .int .i64 0, .str (bs []), .sl [], .sl [], .str (bs []), .str (bs []), .str (bs []), .str (bs []), .str (bs [])] := rfl
theorem may_in {m : Member} {add remove : Int} {leaf key : S} (h : may m add remove leaf key = true) : m.inn = true ∧ inR add ∧ inR remove := by
  unfold may at h
  simp only [Bool.and_eq_true, decide_eq_true_eq] at h
  obtain ⟨h1, ⟨_, ⟨a, b, _⟩, c, d, _⟩, _⟩ := h
  exact ⟨h1, ⟨a, b⟩, c, d⟩
theorem op1_ok {s : S} (h : (secMade s).op = 1) : secOk s = true := by
  cases e : secOk s with
  | true => rfl
  | false => rw [secMade_op.2 e] at h; cases h
theorem t_MemCommit (hL : 1099511627776 ≤ L) (b : Bool) (w e : Int) (ks : List S) (own : List Own) (i t : S) (hl : own.length ≤ 1000000) (fresh : S) (add remove : Int) (leaf key : S) (ht : t.length ≤ 1000000000) :
    ev E L (D + 310) 60 [.agg [.bool b, .int .i64 w, .sl (ks.map rS), .sl (own.map rO), .int .i64 e, .str (bs i), .str (bs t)], .str (bs fresh), .int .i64 add, .int .i64 remove, .str (bs leaf), .str (bs key)] [] =
      some (.tup (match memCommit ⟨b, w, ks, own, e, i, t⟩ fresh add remove leaf key with
        | some (x, c) => [.agg (rM x), .agg (rC c), .bool true]
        | none => [.agg (rM noMember), .agg (rC noCommit), .bool false]), []) := by
  rw [eq_60]
  unfold memCommit
  have hno : ∀ h : commitOk ⟨b, w, ks, own, e, i, t⟩ fresh add remove leaf key = false, (match (if commitOk ⟨b, w, ks, own, e, i, t⟩ fresh add remove leaf key = true then some (commitM ⟨b, w, ks, own, e, i, t⟩ fresh add remove leaf key, commitC ⟨b, w, ks, own, e, i, t⟩ fresh add remove leaf key) else none) with
        | some (x, c) => [MV.agg (rM x), .agg (rC c), .bool true]
        | none => [.agg (rM noMember), .agg (rC noCommit), .bool false]) = [.agg (rM noMember), .agg (rC noCommit), .bool false] := fun h => by rw [h]; rfl
  by_cases h1 : memOk ⟨b, w, ks, own, e, i, t⟩ = true
  case neg =>
    rw [hno (by unfold commitOk; simp [h1])]
    simp only [bnd_some', br_false', gBool_b, bNot_t, bNot_f, t_MemOk _ _ hL b w e ks own i t hl, h1, rM_no, rC_no]
  by_cases h2 : secOk fresh = true
  case neg =>
    have : ¬ (secMade fresh).op = 1 := fun e => h2 (op1_ok e)
    rw [hno (by unfold commitOk; simp [this])]
    simp only [bnd_some', br_true', br_false', gBool_b, bNot_t, bNot_f, t_MemOk _ _ hL b w e ks own i t hl, h1, t_SecOk _ _ hL, h2, rM_no, rC_no]
  obtain ⟨u, hu⟩ := Option.isSome_iff_exists.1 (show (sec fresh).isSome = true from h2)
  have hm : secMade fresh = u.how := by unfold secMade; rw [hu]
  have hfl := (sec_len hu).2.2.2
  by_cases h3 : u.how.op = 1
  case neg =>
    rw [hno (by unfold commitOk; rw [hm]; simp [h3])]
    simp only [bnd_some', br_true', br_false', gBool_b, gInt_i, gStr_s, cellAt_zero, cellAt_succ, bNot_t, bNot_f, bNot_dec, bNot_bNot, iEq_dec, iLt_dec, sLen_bs, gAggN_if, decide_false, if_true, not_true_eq_false, not_false_eq_true, List.length_cons, List.length_nil, Nat.reduceAdd, t_MemOk _ _ hL b w e ks own i t hl, h1, t_SecOk _ _ hL, h2, t_l1How _ _ hL fresh u hu, rHow, h3, rM_no, rC_no]
  have h15 : b = true → ks.length = 15 := fun hb => by
    subst hb; exact treOk_len (memOk_in h1 rfl).2.1
  by_cases h4 : may ⟨b, w, ks, own, e, i, t⟩ add remove leaf key = true
  case neg =>
    rw [hno (by unfold commitOk; simp [h4])]
    simp only [bnd_some', br_true', br_false', gBool_b, gInt_i, gStr_s, cellAt_zero, cellAt_succ, bNot_t, bNot_f, iEq_dec, gAggN_if, if_true, List.length_cons, List.length_nil, Nat.reduceAdd, ↓dec_selfI, t_MemOk _ _ hL b w e ks own i t hl, h1, t_SecOk _ _ hL, h2, t_l1How _ _ hL fresh u hu, rHow, h3, t_l4May _ _ hL b w e ks h15 own i t, h4, rM_no, rC_no]
  obtain ⟨hb, ha, hr⟩ := may_in h4
  simp only at hb
  subst hb
  obtain ⟨g1, g2, g3, g4, g5, g6, g7⟩ := memOk_in h1 rfl
  simp only at g1 g5 g6 g7
  by_cases h5 : t.length + fresh.length ≤ 300
  case neg =>
    have h5' : (300 : Int) < (t.length : Int) + fresh.length := by omega
    rw [hno (by unfold commitOk; simp [h5])]
    simp (disch := omega) only [bnd_some', br_true', br_false', gBool_b, gInt_i, gStr_s, cellAt_zero, cellAt_succ, bNot_t, bNot_f, iEq_dec, iLt_dec, sLen_bs, gAggN_if, decide_true, if_true, List.length_cons, List.length_nil, Nat.reduceAdd, ↓dec_selfI, t_MemOk _ _ hL true w e ks own i t hl, h1, t_SecOk _ _ hL, h2, t_l1How _ _ hL fresh u hu, rHow, h3, t_l4May _ _ hL true w e ks h15 own i t, h4, iAdd_w, h5', rM_no, rC_no]
  have h5' : ¬ (300 : Int) < (t.length : Int) + fresh.length := by omega
  by_cases h6 : i.length ≤ 280
  case neg =>
    have h6' : (280 : Int) < (i.length : Int) := by omega
    rw [hno (by unfold commitOk; simp [h6])]
    simp (disch := omega) only [bnd_some', br_true', gBool_b, gInt_i, gStr_s, cellAt_zero, cellAt_succ, bNot_t, bNot_f, iEq_dec, iLt_dec, sLen_bs, gAggN_if, decide_true, decide_false, if_true, List.length_cons, List.length_nil, Nat.reduceAdd, ↓dec_selfI, t_MemOk _ _ hL true w e ks own i t hl, h1, t_SecOk _ _ hL, h2, t_l1How _ _ hL fresh u hu, rHow, h3, t_l4May _ _ hL true w e ks h15 own i t, h4, iAdd_w, h5', h6', rM_no, rC_no]
  have h6' : ¬ (280 : Int) < (i.length : Int) := by omega
  have hok : commitOk ⟨true, w, ks, own, e, i, t⟩ fresh add remove leaf key = true := by
    unfold commitOk; rw [hm]; simp [h1, h3, h4, h5, h6]
  rw [hok]
  simp (disch := omega) only [bnd_some', br_true', br_false', gBool_b, gInt_i, gStr_s, gSl_r, cellAt_zero, cellAt_succ, bNot_t, bNot_f, iEq_dec, iLt_dec, sLen_bs, gTupN_if, gAggN_if, decide_false, if_true, List.length_cons, List.length_nil, Nat.reduceAdd, ↓dec_selfI, t_MemOk _ _ hL true w e ks own i t hl, h1, t_SecOk _ _ hL, h2, t_l1How _ _ hL fresh u hu, rHow, h3, t_l4May _ _ hL true w e ks h15 own i t, h4, iAdd_w, h5', h6', t_l4Commit _ _ hL true w e g1 ks (h15 rfl) own i t fresh add remove leaf key ha hr g5 (by omega) hfl, rM, rC]
end
end Kw
namespace Kw
open Go Go.Proofs
section
variable (L D : Nat)
theorem t_MemFirst (hL : 1099511627776 ≤ L) (w : Int) (leaf init : S) : ev E L (D + 309) 35 [.int .i64 w, .str (bs leaf), .str (bs init)] [] = some (.agg (rM (memFirst w leaf init)), []) := by
  rw [eq_35]
  unfold memFirst
  by_cases h1 : isWho w
  case neg =>
    have h1' : ¬ (0 ≤ w ∧ w ≤ 7) := h1
    rw [if_neg (fun x => h1 x.1)]
    simp only [bnd_some', br_false', gBool_b, bNot_t, bNot_f, decide_false, t_l1In, h1', rM_no]
  obtain ⟨h1a, h1b⟩ := id h1
  by_cases h2 : secOk leaf = true
  case neg => rw [if_neg (fun x => h2 x.2.1)]; simp only [bnd_some', br_true', br_false', gBool_b, bNot_t, bNot_f, decide_true, and_true, t_l1In, h1a, h1b, t_SecOk _ _ hL, h2, rM_no]
  by_cases h3 : secOk init = true
  case neg => rw [if_neg (fun x => h3 x.2.2.1)]; simp only [bnd_some', br_true', br_false', gBool_b, bNot_t, bNot_f, decide_true, and_true, t_l1In, h1a, h1b, t_SecOk _ _ hL, h2, h3, rM_no]
  by_cases h4 : leaf.length ≤ 292
  case neg =>
    have h4' : (292 : Int) < leaf.length := by omega
    rw [if_neg (fun x => h4 x.2.2.2)]; simp only [bnd_some', br_true', gBool_b, bNot_t, bNot_f, iLt_dec, sLen_bs, decide_true, and_true, t_l1In, h1a, h1b, t_SecOk _ _ hL, h2, h3, h4', rM_no]
  have h4' : ¬ (292 : Int) < leaf.length := by omega
  rw [if_pos ⟨h1, h2, h3, h4⟩]
  simp only [bnd_some', br_true', br_false', gBool_b, gInt_i, gSl_r, gOwn_r, cellAt_zero, bNot_t, bNot_f, iEq_dec, iLt_dec, sLen_bs, nrows_map, gAggN_if, decide_true, decide_false, if_true, and_true, List.length_cons, List.length_nil, Nat.reduceAdd, ↓dec_selfI, t_l1In, h1a, h1b, t_SecOk _ _ hL, h2, h3, h4', t_TreNew, t_l3Set _ _ hL treNew rfl w h1, t_TreLeaf, t_l4Path _ _ hL, rM]
theorem lp_MemKnows (b : Bool) (w e : Int) (kr : List Row) (own : List Own) (i : S) (t : ByteArray) (hl : own.length ≤ 1000000) : ∀ (n k : Nat) (acc : List S), own.length - k < n → k ≤ own.length → acc.length + own.length ≤ 10000000 + k →
    LP_61_5 L D n (acc.map rS) b w kr (own.map rO) e (bs i) t acc.length k = some (.sl ((acc ++ ((own.drop k).map (·.sec) ++ [i])).map rS), []) := by
  intro n
  induction n with
  | zero => intro k acc h; omega
  | succ n ih =>
    intro k acc hn hk hb
    rw [LP_61_5_succ]
    by_cases h : k < own.length
    · have h' : (k : Int) < own.length := by omega
      rw [ix_drop own k h]
      have := ih (k + 1) (acc ++ [(ix own (k : Int)).sec]) (by omega) (by omega) (by simp; omega)
      simp (disch := omega) only [bnd_some', br_true', gStr_s, beq_self_eq_true, iEq_dec, iLt_dec, bAnd_r, nrows_map, nrows_nil, nrows_cons, decide_true, List.length_cons, List.length_nil, Nat.reduceAdd, okR_S, okR_cons, okR_nil, Bool.and_self, ↓dec_selfI, cat1_S, c_O1, rowZ_O, h', iAdd_n1, fits_true, this]
      simp
    · have h' : ¬ (k : Int) < own.length := by omega
      simp (disch := omega) only [br_true', br_false', beq_self_eq_true, iEq_dec, iLt_dec, bAnd_r, nrows_map, nrows_nil, nrows_cons, decide_false, List.length_cons, List.length_nil, Nat.reduceAdd, okR_S, okR_cons, okR_nil, Bool.and_self, ↓dec_selfI, cat1_S, h', fits_true]
      rw [List.drop_eq_nil_of_le (by omega)]; simp
theorem t_MemKnows (hL : 1099511627776 ≤ L) (b : Bool) (w e : Int) (ks : List S) (own : List Own) (i t : S) (hl : own.length ≤ 1000000) : ev E L (D + 310) 61 [.agg [.bool b, .int .i64 w, .sl (ks.map rS), .sl (own.map rO), .int .i64 e, .str (bs i), .str (bs t)]] [] = some (.sl ((memKnows ⟨b, w, ks, own, e, i, t⟩).map rS), []) := by
  rw [eq_61]
  unfold memKnows
  by_cases h1 : memOk ⟨b, w, ks, own, e, i, t⟩ = true
  case neg =>
    rw [if_neg (fun x => h1 x.1)]
    simp only [bnd_some', br_true', br_false', gBool_b, bNot_t, bNot_f, iEq_dec, nrows_nil, ↓dec_selfI, t_MemOk _ _ hL b w e ks own i t hl, h1]; rfl
  cases b with
  | false =>
    rw [if_neg (fun x => by cases x.2)]
    simp only [bnd_some', br_true', gBool_b, bNot_t, bNot_f, iEq_dec, nrows_nil, ↓dec_selfI, t_MemOk _ _ hL false w e ks own i t hl, h1]; rfl
  | true =>
    rw [if_pos ⟨h1, rfl⟩]
    simp only [bnd_some', br_true', br_false', gBool_b, bNot_t, bNot_f, nrows_nil, t_MemOk _ _ hL true w e ks own i t hl, h1]
    have := lp_MemKnows L (D + 309) true w e (ks.map rS) own i (bs t) hl L 0 [] (by omega) (by omega) (by simp; omega)
    exact this
theorem lp_l2Boxes (hL : 1099511627776 ≤ L) (l : List Box) (hl : l.length ≤ 1000000) : ∀ (n k : Nat), l.length - k < n → k ≤ l.length →
    LP_108_4 L (D + 305) n (l.map rB) k = some (.bool ((l.drop k).all fun x => secOk x.key && secOk x.sec), []) := by
  intro n
  induction n with
  | zero => intro k h; omega
  | succ n ih =>
    intro k hn hk
    rw [LP_108_4_succ]
    by_cases h : k < l.length
    · have h' : (k : Int) < l.length := by omega
      have := ih (k + 1) (by omega) (by omega)
      rw [ix_drop l k h, List.all_cons]
      by_cases h1 : secOk (ix l (k : Int)).key = true
      · by_cases h2 : secOk (ix l (k : Int)).sec = true
        · simp (disch := omega) only [bnd_some', br_true', br_false', gBool_b, gStr_s, bNot_t, bNot_f, iLt_dec, nrows_map, decide_true, Bool.and_self, c_B0, c_B1, rowZ_B, h', iAdd_n1, t_SecOk _ _ hL, h1, h2, this, Bool.true_and]
        · simp (disch := omega) only [bnd_some', br_true', gBool_b, gStr_s, bNot_t, bNot_f, iLt_dec, nrows_map, decide_true, c_B0, c_B1, rowZ_B, h', t_SecOk _ _ hL, h1, h2]; simp [h2]
      · simp (disch := omega) only [bnd_some', br_true', br_false', gBool_b, gStr_s, bNot_t, bNot_f, iLt_dec, nrows_map, decide_true, c_B0, rowZ_B, h', t_SecOk _ _ hL, h1]; simp [h1]
    · have h' : ¬ (k : Int) < l.length := by omega
      simp (disch := omega) only [br_false', iLt_dec, nrows_map, decide_false, h']
      rw [List.drop_eq_nil_of_le (by omega)]; rfl
theorem t_l2Boxes (hL : 1099511627776 ≤ L) (l : List Box) : ev E L (D + 306) 108 [.sl (l.map rB)] [] = some (.bool (boxesOk l), []) := by
  rw [eq_108]
  unfold boxesOk
  by_cases h : l.length ≤ 400
  · have h' : ¬ (400 : Int) < l.length := by omega
    have := lp_l2Boxes L D hL l (by omega) L 0 (by omega) (by omega)
    rw [show ((0 : Nat) : Int) = 0 from rfl, List.drop_zero] at this
    simp only [br_false', iLt_dec, nrows_map, decide_false, h', this]; simp [h]
  · have h' : (400 : Int) < l.length := by omega
    simp only [br_true', iLt_dec, nrows_map, decide_true, h']; simp [h]
theorem lp_l5Keys (a b : List S) (hl : a.length = b.length) (hb : b.length ≤ 1000000) : ∀ (n k : Nat), a.length - k < n → k ≤ a.length →
    LP_125_4 L D n (b.map rS) (a.map rS) k = some (.bool (decide (a.drop k = b.drop k)), []) := by
  intro n
  induction n with
  | zero => intro k h; omega
  | succ n ih =>
    intro k hn hk
    rw [LP_125_4_succ]
    by_cases h : k < a.length
    · have h' : (k : Int) < a.length := by omega
      have := ih (k + 1) (by omega) (by omega)
      rw [ix_drop a k h, ix_drop b k (by omega)]
      by_cases h1 : ix a (k : Int) = ix b (k : Int)
      · have hd : decide (¬ ix a (k : Int) = ix b (k : Int)) = false := decide_eq_false (fun x => x h1)
        simp (disch := omega) only [bnd_some', br_true', br_false', gStr_s, bNot_dec, iLt_dec, sEq_bs, nrows_map, decide_true, c_S0, rowZ_S, h', iAdd_n1, hd, this]
        rw [h1]; simp
      · simp (disch := omega) only [bnd_some', br_true', gStr_s, bNot_f, iLt_dec, sEq_bs, nrows_map, decide_true, decide_false, c_S0, rowZ_S, h', h1]; simp [h1]
    · have h' : ¬ (k : Int) < a.length := by omega
      simp (disch := omega) only [br_false', iLt_dec, nrows_map, decide_false, h']
      rw [List.drop_eq_nil_of_le (by omega), List.drop_eq_nil_of_le (by omega)]; simp
theorem t_l5Keys (hL : 1099511627776 ≤ L) (a b : List S) (hb : a.length ≤ 1000000) : ev E L (D + 1) 125 [.sl (a.map rS), .agg [.sl (b.map rS)]] [] = some (.bool (decide (a = b)), []) := by
  rw [eq_125]
  by_cases h : a.length = b.length
  · have h' : (a.length : Int) = b.length := by omega
    have hd : decide (¬ (a.length : Int) = b.length) = false := decide_eq_false (fun x => x h')
    have := lp_l5Keys L D a b h (by omega) L 0 (by omega) (by omega)
    rw [show ((0 : Nat) : Int) = 0 from rfl, List.drop_zero, List.drop_zero] at this
    simp only [br_false', bNot_dec, iEq_dec, nrows_map, hd, this]
  · have h' : ¬ (a.length : Int) = b.length := by omega
    have : ¬ a = b := fun e => h (by rw [e])
    simp only [br_true', bNot_f, iEq_dec, nrows_map, decide_false, h', this]
theorem opens_cons (o : Own) (r : List Own) (k : S) : opens (o :: r) k = (decide (makKey o.sec = k) || opens r k) := rfl
theorem lp_l5Find (hL : 1099511627776 ≤ L) (b : Bool) (w e : Int) (kr : List Row) (own : List Own) (i t : ByteArray) (hl : own.length ≤ 1000000) (bx : List Box) (hbl : bx.length ≤ 1000000) : ∀ (m k : Nat), bx.length - k < m → k ≤ bx.length →
    LP_110_2 L (D + 307) m b w kr (own.map rO) e i t (bx.map rB) k = some (.str (bs (findBox own (bx.drop k))), []) := by
  intro m
  induction m with
  | zero => intro k h; omega
  | succ m ihm =>
    intro k hm hk
    rw [LP_110_2_succ]
    by_cases h : k < bx.length
    case neg =>
      have h' : ¬ (k : Int) < bx.length := by omega
      simp (disch := omega) only [br_false', iLt_dec, nrows_map, decide_false, h']
      rw [List.drop_eq_nil_of_le (by omega)]; rfl
    have h' : (k : Int) < bx.length := by omega
    have next := ihm (k + 1) (by omega) (by omega)
    rw [ix_drop bx k h]
    have inner : ∀ (n j : Nat), own.length - j < n → j ≤ own.length → LP_110_5 L (D + 307) n m b w kr (own.map rO) e i t (bx.map rB) k j = some (.str (bs (if opens (own.drop j) (ix bx (k : Int)).key = true then (ix bx (k : Int)).sec else findBox own (bx.drop (k + 1)))), []) := by
      intro n
      induction n with
      | zero => intro j h; omega
      | succ n ih =>
        intro j hn hj
        rw [LP_110_5_succ]
        by_cases g : j < own.length
        · have g' : (j : Int) < own.length := by omega
          have := ih (j + 1) (by omega) (by omega)
          rw [ix_drop own j g, opens_cons]
          by_cases g1 : makKey (ix own (j : Int)).sec = (ix bx (k : Int)).key
          · have hd : decide (makKey (ix own (j : Int)).sec = (ix bx (k : Int)).key) = true := decide_eq_true g1
            simp (disch := omega) only [bnd_some', br_true', gStr_s, iLt_dec, sEq_bs, nrows_map, decide_true, c_O1, rowZ_O, c_B0, c_B1, rowZ_B, g', t_MakKey _ _ hL, hd]; simp
          · simp (disch := omega) only [bnd_some', br_true', br_false', gStr_s, iLt_dec, sEq_bs, nrows_map, decide_true, decide_false, c_O1, rowZ_O, c_B0, rowZ_B, g', iAdd_n1, t_MakKey _ _ hL, g1, this]; simp
        · have g' : ¬ (j : Int) < own.length := by omega
          simp (disch := omega) only [br_false', iLt_dec, nrows_map, decide_false, g', iAdd_n1, next]
          have : own.drop j = [] := List.drop_eq_nil_of_le (by omega)
          rw [this]; rfl
    have := inner L 0 (by omega) (by omega)
    rw [show ((0 : Nat) : Int) = 0 from rfl, List.drop_zero] at this
    simp (disch := omega) only [br_true', iLt_dec, nrows_map, decide_true, h', this]
    rfl
theorem t_l5Find (hL : 1099511627776 ≤ L) (b : Bool) (w e : Int) (kr : List Row) (own : List Own) (i t : ByteArray) (hl : own.length ≤ 1000000) (bx : List Box) (hbl : bx.length ≤ 1000000) : ev E L (D + 308) 110 [.agg [.bool b, .int .i64 w, .sl kr, .sl (own.map rO), .int .i64 e, .str i, .str t], .sl (bx.map rB)] [] = some (.str (bs (findBox own bx)), []) := by
  rw [eq_110]
  exact lp_l5Find L D hL b w e kr own i t hl bx hbl L 0 (by omega) (by omega)
def nodesOk (own : List Own) : Prop := ∀ o ∈ own, 0 ≤ o.node ∧ o.node ≤ 14
theorem nodes_ix {own : List Own} (h : nodesOk own) {k : Nat} (hk : k < own.length) : 0 ≤ (ix own (k : Int)).node ∧ (ix own (k : Int)).node ≤ 14 := h _ (by rw [ix_nat own k hk]; exact List.getElem_mem hk)
theorem lp_l5Kept (hL : 1099511627776 ≤ L) (b : Bool) (w e : Int) (kr : List Row) (own : List Own) (hno : nodesOk own) (i t : ByteArray) (hl : own.length ≤ 1000000) (ks : List S) (h15 : ks.length = 15) : ∀ (n k : Nat) (acc : List Own), own.length - k < n → k ≤ own.length → acc.length + own.length ≤ 10000000 + k →
    LP_112_3 L (D + 307) n (acc.map rO) b w kr (own.map rO) e i t (ks.map rS) acc.length k = some (.own ((acc ++ keeps ks (own.drop k)).map rO), []) := by
  intro n
  induction n with
  | zero => intro k acc h; omega
  | succ n ih =>
    intro k acc hn hk hb
    rw [LP_112_3_succ]
    by_cases h : k < own.length
    · have h' : (k : Int) < own.length := by omega
      obtain ⟨x0, x1⟩ := nodes_ix hno h
      rw [ix_drop own k h]
      by_cases h1 : ix ks (ix own (k : Int)).node = makKey (ix own (k : Int)).sec
      · have hd : decide (ix ks (ix own (k : Int)).node = makKey (ix own (k : Int)).sec) = true := decide_eq_true h1
        have := ih (k + 1) (acc ++ [ix own (k : Int)]) (by omega) (by omega) (by simp; omega)
        have e1 : (⟨(ix own (k : Int)).node, (ix own (k : Int)).sec⟩ : Own) = ix own (k : Int) := rfl
        simp (disch := omega) only [bnd_some', br_true', gInt_i, gStr_s, beq_self_eq_true, iEq_dec, iLt_dec, bAnd_r, sEq_bs, nrows_map, nrows_nil, nrows_cons, decide_true, List.length_cons, List.length_nil, Nat.reduceAdd, okR_O, okR_cons, okR_nil, Bool.and_self, ↓dec_selfI, c_S0, rowZ_S, c_O0, c_O1, cat1_O, rowZ_O, h', iAdd_n1, t_MakKey _ _ hL, hd, fits_true, e1, this]
        simp [keeps, h1]
      · have := ih (k + 1) acc (by omega) (by omega) (by omega)
        simp (disch := omega) only [bnd_some', br_true', br_false', gInt_i, gStr_s, iLt_dec, sEq_bs, nrows_map, decide_true, decide_false, c_S0, rowZ_S, c_O0, c_O1, rowZ_O, h', iAdd_n1, t_MakKey _ _ hL, h1, this]
        simp [keeps, h1]
    · have h' : ¬ (k : Int) < own.length := by omega
      rw [show iLt (k : Int) (nrows (own.map rO)) = false from by simpa using h', br_false', show iEq (acc.length : Int) (nrows (acc.map rO)) = true from by simp, br_true', List.drop_eq_nil_of_le (by omega)]; simp [keeps]
theorem t_l5Kept (hL : 1099511627776 ≤ L) (b : Bool) (w e : Int) (kr : List Row) (own : List Own) (hno : nodesOk own) (i t : ByteArray) (hl : own.length ≤ 1000000) (ks : List S) (h15 : ks.length = 15) : ev E L (D + 308) 112 [.agg [.bool b, .int .i64 w, .sl kr, .sl (own.map rO), .int .i64 e, .str i, .str t], .agg [.sl (ks.map rS)]] [] = some (.own ((keeps ks own).map rO), []) := by
  rw [eq_112]
  exact lp_l5Kept L D hL b w e kr own hno i t hl ks h15 L 0 [] (by omega) (by omega) (by simp; omega)
theorem lp_l5Fresh (hL : 1099511627776 ≤ L) (path : List Own) (hno : nodesOk path) (hl : path.length ≤ 1000000) (ks : List S) (h15 : ks.length = 15) : ∀ (n k : Nat), path.length - k < n → k ≤ path.length →
    LP_111_2 L (D + 307) n (ks.map rS) (path.map rO) k = some (.bool (freshOk ks (path.drop k)), []) := by
  intro n
  induction n with
  | zero => intro k h; omega
  | succ n ih =>
    intro k hn hk
    rw [LP_111_2_succ]
    by_cases h : k < path.length
    · have h' : (k : Int) < path.length := by omega
      obtain ⟨x0, x1⟩ := nodes_ix hno h
      have := ih (k + 1) (by omega) (by omega)
      rw [ix_drop path k h]
      by_cases h1 : ix ks (ix path (k : Int)).node = makKey (ix path (k : Int)).sec
      · have hd : decide (¬ ix ks (ix path (k : Int)).node = makKey (ix path (k : Int)).sec) = false := decide_eq_false (fun x => x h1)
        simp (disch := omega) only [bnd_some', br_true', br_false', gInt_i, gStr_s, bNot_dec, iLt_dec, sEq_bs, nrows_map, decide_true, c_S0, rowZ_S, c_O0, c_O1, rowZ_O, h', iAdd_n1, t_MakKey _ _ hL, hd, this]
        simp [freshOk, h1]
      · simp (disch := omega) only [bnd_some', br_true', gInt_i, gStr_s, bNot_f, iLt_dec, sEq_bs, nrows_map, decide_true, decide_false, c_S0, rowZ_S, c_O0, c_O1, rowZ_O, h', t_MakKey _ _ hL, h1]
        simp [freshOk, h1]
    · have h' : ¬ (k : Int) < path.length := by omega
      simp (disch := omega) only [br_false', iLt_dec, nrows_map, decide_false, h']
      rw [List.drop_eq_nil_of_le (by omega)]; rfl
theorem t_l5Fresh (hL : 1099511627776 ≤ L) (path : List Own) (hno : nodesOk path) (hl : path.length ≤ 1000000) (ks : List S) (h15 : ks.length = 15) : ev E L (D + 308) 111 [.agg [.sl (ks.map rS)], .sl (path.map rO)] [] = some (.bool (freshOk ks path), []) := by
  rw [eq_111]
  exact lp_l5Fresh L D hL path hno hl ks h15 L 0 (by omega) (by omega)
theorem lp_l5Under (b : Bool) (w e : Int) (kr : List Row) (own : List Own) (i t : ByteArray) (hl : own.length ≤ 1000000) (path : List Own) (hpl : path.length ≤ 1000000) (hL : 1099511627776 ≤ L) : ∀ (n k : Nat) (acc : List Own), own.length - k < n → k ≤ own.length → acc.length + own.length ≤ 10000000 + k →
    LP_113_3 L (D + 1) n (acc.map rO) b w kr (own.map rO) e i t (path.map rO) acc.length k = some (.sl ((acc ++ under (own.drop k) path).map rO), []) := by
  intro n
  induction n with
  | zero => intro k acc h; omega
  | succ n ih =>
    intro k acc hn hk hb
    rw [LP_113_3_succ]
    by_cases h : k < own.length
    · have h' : (k : Int) < own.length := by omega
      rw [ix_drop own k h]
      have ho := t_l4Own L D hL false 0 0 [] path (bs []) (bs []) (ix own (k : Int)).node hpl
      by_cases h1 : ownOf path (ix own (k : Int)).node = []
      · have := ih (k + 1) (acc ++ [ix own (k : Int)]) (by omega) (by omega) (by simp; omega)
        have e1 : (⟨(ix own (k : Int)).node, (ix own (k : Int)).sec⟩ : Own) = ix own (k : Int) := rfl
        simp (disch := omega) only [bnd_some', br_true', gInt_i, gStr_s, beq_self_eq_true, iEq_dec, iLt_dec, bAnd_r, sEq_bs, nrows_map, nrows_nil, nrows_cons, decide_true, List.length_cons, List.length_nil, Nat.reduceAdd, okR_O, okR_cons, okR_nil, Bool.and_self, ↓dec_selfI, ↓dec_selfS, c_O0, c_O1, cat1_O, rowZ_O, h', iAdd_n1, ho, h1, fits_true, e1, this]
        simp [under, h1]
      · have := ih (k + 1) acc (by omega) (by omega) (by omega)
        simp (disch := omega) only [bnd_some', br_true', br_false', gInt_i, gStr_s, iLt_dec, sEq_bs, nrows_map, decide_true, decide_false, c_O0, rowZ_O, h', iAdd_n1, ho, h1, this]
        simp [under, h1]
    · have h' : ¬ (k : Int) < own.length := by omega
      rw [show iLt (k : Int) (nrows (own.map rO)) = false from by simpa using h', br_false', show iEq (acc.length : Int) (nrows (acc.map rO)) = true from by simp, br_true', List.drop_eq_nil_of_le (by omega)]; simp [under]
theorem t_l5Under (hL : 1099511627776 ≤ L) (b : Bool) (w e : Int) (kr : List Row) (own : List Own) (i t : ByteArray) (hl : own.length ≤ 1000000) (path : List Own) (hpl : path.length ≤ 1000000) : ev E L (D + 2) 113 [.agg [.bool b, .int .i64 w, .sl kr, .sl (own.map rO), .int .i64 e, .str i, .str t], .sl (path.map rO)] [] = some (.sl ((under own path).map rO), []) := by
  rw [eq_113]
  exact lp_l5Under L D b w e kr own i t hl path hpl hL L 0 [] (by omega) (by omega) (by simp; omega)
end
end Kw
namespace Kw
open Go Go.Proofs
section
variable (L D : Nat)
theorem t_CmtOk (hL : 1099511627776 ≤ L) (c0 : Int) (c1 c2 : S) (c3 c4 : Int) (c5 : S) (c6 : List S) (c7 : List Box) (c8 c9 c10 c11 c12 : S) (ht : c1.length ≤ 1000000000) : ev E L (D + 307) 85 [.agg [.int .i64 c0, .str (bs c1), .str (bs c2), .int .i64 c3, .int .i64 c4, .str (bs c5), .sl (c6.map rS), .sl (c7.map rB), .str (bs c8), .str (bs c9), .str (bs c10), .str (bs c11), .str (bs c12)]] [] = some (.bool (cmtOk ⟨c0, c1, c2, c3, c4, c5, c6, c7, c8, c9, c10, c11, c12⟩), []) := by
  rw [eq_85]
  unfold cmtOk
  by_cases h1 : isWho c0
  case neg =>
    have h1' : ¬ (0 ≤ c0 ∧ c0 ≤ 7) := h1
    simp only [bnd_some', br_false', gBool_b, bNot_t, bNot_f, decide_false, t_l1In, h1']; simp [h1]
  obtain ⟨h1a, h1b⟩ := id h1
  by_cases h2 : secOk c2 = true
  case neg =>
    have : ¬ (secMade c2).op = 1 := fun e => h2 (op1_ok e)
    simp only [bnd_some', br_true', br_false', gBool_b, bNot_t, bNot_f, decide_true, and_true, t_l1In, h1a, h1b, t_SecOk _ _ hL, h2]; simp [this]
  obtain ⟨u, hu⟩ := Option.isSome_iff_exists.1 (show (sec c2).isSome = true from h2)
  have hm : secMade c2 = u.how := by unfold secMade; rw [hu]
  have hfl := (sec_len hu).2.2.2
  by_cases h3 : u.how.op = 1
  case neg => simp only [bnd_some', br_true', br_false', gBool_b, gInt_i, gStr_s, cellAt_zero, cellAt_succ, bNot_t, bNot_f, bNot_dec, bNot_bNot, iEq_dec, iLt_dec, bAnd_dec, bAnd_r, sLen_bs, sEq_bs, nrows_map, gAggN_if, decide_true, decide_false, if_true, and_true, not_true_eq_false, not_false_eq_true, List.length_cons, List.length_nil, Int.reduceNeg, Nat.reduceAdd, t_l1In, h1a, h1b, t_SecOk _ _ hL, h2, t_l1How _ _ hL c2 u hu, rHow, h3]; simp [hm, h3]
  by_cases h4 : c1.length + c2.length ≤ 300
  case neg =>
    have h4' : (300 : Int) < (c1.length : Int) + c2.length := by omega
    simp (disch := omega) only [bnd_some', br_true', br_false', gBool_b, gInt_i, gStr_s, cellAt_zero, cellAt_succ, bNot_t, bNot_f, iEq_dec, iLt_dec, sLen_bs, gAggN_if, decide_true, if_true, and_true, List.length_cons, List.length_nil, Nat.reduceAdd, ↓dec_selfI, t_l1In, h1a, h1b, t_SecOk _ _ hL, h2, t_l1How _ _ hL c2 u hu, rHow, h3, iAdd_w, h4']; simp [h4]
  have h4' : ¬ (300 : Int) < (c1.length : Int) + c2.length := by omega
  by_cases h5 : -1 ≤ c3 ∧ c3 ≤ 7
  case neg =>
    have hs : ¬ someone c3 c0 := fun ⟨x, y, _⟩ => h5 ⟨x, y⟩
    simp (disch := omega) only [bnd_some', br_true', br_false', gBool_b, gInt_i, gStr_s, cellAt_zero, cellAt_succ, bNot_t, bNot_f, iEq_dec, iLt_dec, sLen_bs, gAggN_if, decide_true, decide_false, if_true, and_true, List.length_cons, List.length_nil, Int.reduceNeg, Nat.reduceAdd, ↓dec_selfI, t_l1In, h1a, h1b, t_SecOk _ _ hL, h2, t_l1How _ _ hL c2 u hu, rHow, h3, iAdd_w, h4', h5]; simp [hs]
  obtain ⟨h5a, h5b⟩ := id h5
  by_cases h6 : -1 ≤ c4 ∧ c4 ≤ 7
  case neg =>
    have hs : ¬ someone c4 c0 := fun ⟨x, y, _⟩ => h6 ⟨x, y⟩
    simp (disch := omega) only [bnd_some', br_true', br_false', gBool_b, gInt_i, gStr_s, cellAt_zero, cellAt_succ, bNot_t, bNot_f, iEq_dec, iLt_dec, sLen_bs, gAggN_if, decide_true, decide_false, if_true, and_true, List.length_cons, List.length_nil, Int.reduceNeg, Nat.reduceAdd, ↓dec_selfI, t_l1In, h1a, h1b, t_SecOk _ _ hL, h2, t_l1How _ _ hL c2 u hu, rHow, h3, iAdd_w, h4', h5a, h5b, h6]; simp [hs]
  obtain ⟨h6a, h6b⟩ := id h6
  by_cases h7 : c3 = c0
  · have hs : ¬ someone c3 c0 := fun ⟨_, _, z⟩ => z h7
    have hd : decide (¬ c3 = c0) = false := decide_eq_false (fun x => x h7)
    simp (disch := omega) only [bnd_some', br_true', br_false', gBool_b, gInt_i, gStr_s, cellAt_zero, cellAt_succ, bNot_t, bNot_f, bNot_dec, iEq_dec, iLt_dec, sLen_bs, gAggN_if, decide_true, decide_false, if_true, and_true, List.length_cons, List.length_nil, Int.reduceNeg, Nat.reduceAdd, ↓dec_selfI, t_l1In, h1a, h1b, t_SecOk _ _ hL, h2, t_l1How _ _ hL c2 u hu, rHow, h3, iAdd_w, h4', h5a, h5b, h6a, h6b, hd]; simp [hs]
  by_cases h8 : c4 = c0
  · have hs : ¬ someone c4 c0 := fun ⟨_, _, z⟩ => z h8
    have hd : decide (c4 = c0) = true := decide_eq_true h8
    simp (disch := omega) only [bnd_some', br_true', gBool_b, gInt_i, gStr_s, cellAt_zero, cellAt_succ, bNot_t, bNot_f, iEq_dec, iLt_dec, sLen_bs, gAggN_if, decide_true, decide_false, if_true, and_true, List.length_cons, List.length_nil, Int.reduceNeg, Nat.reduceAdd, ↓dec_selfI, t_l1In, h1a, h1b, t_SecOk _ _ hL, h2, t_l1How _ _ hL c2 u hu, rHow, h3, iAdd_w, h4', h5a, h5b, h6a, h6b, h7, hd]; simp [hs]
  have first : decide (isWho c0 ∧ (secMade c2).op = 1 ∧ c1.length + c2.length ≤ 300 ∧ someone c3 c0 ∧ someone c4 c0) = true := decide_eq_true ⟨h1, by rw [hm]; exact h3, h4, ⟨h5a, h5b, h7⟩, ⟨h6a, h6b, h8⟩⟩
  simp only [first, Bool.true_and]
  by_cases h9 : treOk c6 = true
  case neg =>
    simp (disch := omega) only [bnd_some', br_true', br_false', gBool_b, gInt_i, gStr_s, cellAt_zero, cellAt_succ, bNot_t, bNot_f, iEq_dec, iLt_dec, sLen_bs, gAggN_if, decide_true, decide_false, if_true, and_true, List.length_cons, List.length_nil, Int.reduceNeg, Nat.reduceAdd, ↓dec_selfI, t_l1In, h1a, h1b, t_SecOk _ _ hL, h2, t_l1How _ _ hL c2 u hu, rHow, h3, iAdd_w, h4', h5a, h5b, h6a, h6b, h7, h8, t_TreOk _ _ hL, h9]; simp [h9]
  by_cases h10 : boxesOk c7 = true
  case neg =>
    simp (disch := omega) only [bnd_some', br_true', br_false', gBool_b, gInt_i, gStr_s, cellAt_zero, cellAt_succ, bNot_t, bNot_f, iEq_dec, iLt_dec, sLen_bs, gAggN_if, decide_true, decide_false, if_true, and_true, List.length_cons, List.length_nil, Int.reduceNeg, Nat.reduceAdd, ↓dec_selfI, t_l1In, h1a, h1b, t_SecOk _ _ hL, h2, t_l1How _ _ hL c2 u hu, rHow, h3, iAdd_w, h4', h5a, h5b, h6a, h6b, h7, h8, t_TreOk _ _ hL, h9, t_l2Boxes _ _ hL, h10]; simp [h9]
  by_cases h11 : c7.length ≤ 20
  case neg =>
    have h11' : (20 : Int) < c7.length := by omega
    simp (disch := omega) only [bnd_some', br_true', br_false', gBool_b, gInt_i, gStr_s, cellAt_zero, cellAt_succ, bNot_t, bNot_f, iEq_dec, iLt_dec, sLen_bs, nrows_map, gAggN_if, decide_true, decide_false, if_true, and_true, List.length_cons, List.length_nil, Int.reduceNeg, Nat.reduceAdd, ↓dec_selfI, t_l1In, h1a, h1b, t_SecOk _ _ hL, h2, t_l1How _ _ hL c2 u hu, rHow, h3, iAdd_w, h4', h5a, h5b, h6a, h6b, h7, h8, t_TreOk _ _ hL, h9, t_l2Boxes _ _ hL, h10, h11']; simp [h11]
  have h11' : ¬ (20 : Int) < c7.length := by omega
  by_cases h12 : c3 < 0
  · by_cases h13 : c5 = []
    · simp (disch := omega) only [bnd_some', br_true', br_false', gBool_b, gInt_i, gStr_s, cellAt_zero, cellAt_succ, bNot_t, bNot_f, iEq_dec, iLt_dec, bAnd_dec, bAnd_r, sLen_bs, sEq_bs, nrows_map, gAggN_if, decide_true, decide_false, if_true, true_and, and_true, List.length_cons, List.length_nil, Int.reduceNeg, Nat.reduceAdd, ↓dec_selfI, ↓dec_selfS, t_l1In, h1a, h1b, t_SecOk _ _ hL, h2, t_l1How _ _ hL c2 u hu, rHow, h3, iAdd_w, h4', h5a, h5b, h6a, h6b, h7, h8, t_TreOk _ _ hL, h9, t_l2Boxes _ _ hL, h10, h11', h12, h13]
      simp [h11, Bool.and_assoc]
    · simp (disch := omega) only [bnd_some', br_true', br_false', gBool_b, gInt_i, gStr_s, cellAt_zero, cellAt_succ, bNot_t, bNot_f, iEq_dec, iLt_dec, sLen_bs, sEq_bs, nrows_map, gAggN_if, decide_true, decide_false, if_true, and_true, false_and, List.length_cons, List.length_nil, Int.reduceNeg, Nat.reduceAdd, ↓dec_selfI, t_l1In, h1a, h1b, t_SecOk _ _ hL, h2, t_l1How _ _ hL c2 u hu, rHow, h3, iAdd_w, h4', h5a, h5b, h6a, h6b, h7, h8, t_TreOk _ _ hL, h9, t_l2Boxes _ _ hL, h10, h11', h12, h13]
      simp [h11]
  by_cases k1 : isKey c5 = true
  case neg =>
    simp (disch := omega) only [bnd_some', br_true', br_false', gBool_b, gInt_i, gStr_s, cellAt_zero, cellAt_succ, bNot_t, bNot_f, bNot_dec, iEq_dec, iLt_dec, sLen_bs, sEq_bs, nrows_map, gAggN_if, decide_true, decide_false, if_true, if_false, and_true, List.length_cons, List.length_nil, Int.reduceNeg, Nat.reduceAdd, ↓dec_selfI, t_l1In, h1a, h1b, t_SecOk _ _ hL, h2, t_l1How _ _ hL c2 u hu, rHow, h3, iAdd_w, h4', h5a, h5b, h6a, h6b, h7, h8, t_TreOk _ _ hL, h9, t_l2Boxes _ _ hL, h10, h11', h12, t_l4Key _ _ hL, k1]
    simp [h11]
  by_cases k2 : isKey c8 = true
  case neg =>
    simp (disch := omega) only [bnd_some', br_true', br_false', gBool_b, gInt_i, gStr_s, cellAt_zero, cellAt_succ, bNot_t, bNot_f, bNot_dec, iEq_dec, iLt_dec, sLen_bs, sEq_bs, nrows_map, gAggN_if, decide_true, decide_false, if_true, if_false, and_true, List.length_cons, List.length_nil, Int.reduceNeg, Nat.reduceAdd, ↓dec_selfI, t_l1In, h1a, h1b, t_SecOk _ _ hL, h2, t_l1How _ _ hL c2 u hu, rHow, h3, iAdd_w, h4', h5a, h5b, h6a, h6b, h7, h8, t_TreOk _ _ hL, h9, t_l2Boxes _ _ hL, h10, h11', h12, t_l4Key _ _ hL, k1, k2]
    simp [h11]
  by_cases k3 : c5 = c8
  · have hd : decide (¬ c5 = c8) = false := decide_eq_false (fun x => x k3)
    simp (disch := omega) only [bnd_some', br_true', br_false', gBool_b, gInt_i, gStr_s, cellAt_zero, cellAt_succ, bNot_t, bNot_f, bNot_dec, iEq_dec, iLt_dec, sLen_bs, sEq_bs, nrows_map, gAggN_if, decide_true, decide_false, if_true, if_false, and_true, List.length_cons, List.length_nil, Int.reduceNeg, Nat.reduceAdd, ↓dec_selfI, t_l1In, h1a, h1b, t_SecOk _ _ hL, h2, t_l1How _ _ hL c2 u hu, rHow, h3, iAdd_w, h4', h5a, h5b, h6a, h6b, h7, h8, t_TreOk _ _ hL, h9, t_l2Boxes _ _ hL, h10, h11', h12, t_l4Key _ _ hL, k1, k2, hd]
    simp [h11, k3]
  by_cases k4 : c9 = c8
  case neg =>
    simp (disch := omega) only [bnd_some', br_true', br_false', gBool_b, gInt_i, gStr_s, cellAt_zero, cellAt_succ, bNot_t, bNot_f, iEq_dec, iLt_dec, sLen_bs, sEq_bs, nrows_map, gAggN_if, decide_true, decide_false, if_true, if_false, and_true, false_and, and_false, List.length_cons, List.length_nil, Int.reduceNeg, Nat.reduceAdd, ↓dec_selfI, t_l1In, h1a, h1b, t_SecOk _ _ hL, h2, t_l1How _ _ hL c2 u hu, rHow, h3, iAdd_w, h4', h5a, h5b, h6a, h6b, h7, h8, t_TreOk _ _ hL, h9, t_l2Boxes _ _ hL, h10, h11', h12, t_l4Key _ _ hL, k1, k2, k3, k4]
    simp [h11]
  by_cases k5 : c11 = c8
  case neg =>
    have hd4 : decide (c9 = c8) = true := decide_eq_true k4
    simp (disch := omega) only [bnd_some', br_true', br_false', gBool_b, gInt_i, gStr_s, cellAt_zero, cellAt_succ, bNot_t, bNot_f, iEq_dec, iLt_dec, sLen_bs, sEq_bs, nrows_map, gAggN_if, decide_true, decide_false, if_true, if_false, and_true, and_false, List.length_cons, List.length_nil, Int.reduceNeg, Nat.reduceAdd, ↓dec_selfI, t_l1In, h1a, h1b, t_SecOk _ _ hL, h2, t_l1How _ _ hL c2 u hu, rHow, h3, iAdd_w, h4', h5a, h5b, h6a, h6b, h7, h8, t_TreOk _ _ hL, h9, t_l2Boxes _ _ hL, h10, h11', h12, t_l4Key _ _ hL, k1, k2, k3, hd4, k5]
    simp [h11]
  have hd4 : decide (c9 = c8) = true := decide_eq_true k4
  have hd5 : decide (c11 = c8) = true := decide_eq_true k5
  by_cases k6 : secOk c10 = true
  · simp (disch := omega) only [bnd_some', br_true', br_false', gBool_b, gInt_i, gStr_s, cellAt_zero, cellAt_succ, bNot_t, bNot_f, iEq_dec, iLt_dec, sLen_bs, sEq_bs, nrows_map, gAggN_if, decide_true, decide_false, if_true, if_false, and_true, List.length_cons, List.length_nil, Int.reduceNeg, Nat.reduceAdd, ↓dec_selfI, t_l1In, h1a, h1b, t_SecOk _ _ hL, h2, t_l1How _ _ hL c2 u hu, rHow, h3, iAdd_w, h4', h5a, h5b, h6a, h6b, h7, h8, t_TreOk _ _ hL, h9, t_l2Boxes _ _ hL, h10, h11', h12, t_l4Key _ _ hL, k1, k2, k3, hd4, hd5, k6]
    simp [h11, k3, k4, k5]
  · simp (disch := omega) only [bnd_some', br_true', br_false', gBool_b, gInt_i, gStr_s, cellAt_zero, cellAt_succ, bNot_t, bNot_f, iEq_dec, iLt_dec, sLen_bs, sEq_bs, nrows_map, gAggN_if, decide_true, decide_false, if_true, if_false, and_true, List.length_cons, List.length_nil, Int.reduceNeg, Nat.reduceAdd, ↓dec_selfI, t_l1In, h1a, h1b, t_SecOk _ _ hL, h2, t_l1How _ _ hL c2 u hu, rHow, h3, iAdd_w, h4', h5a, h5b, h6a, h6b, h7, h8, t_TreOk _ _ hL, h9, t_l2Boxes _ _ hL, h10, h11', h12, t_l4Key _ _ hL, k1, k2, k3, hd4, hd5, k6]
    simp [h11, k3, k4, k5]
theorem lp_l5Tree (c0 : Int) (c1 c2 : S) (c3 c4 : Int) (c5 : S) (c6 : List S) (c7 : List Box) (c8 c9 c10 c11 c12 : S) (hL : 1099511627776 ≤ L) (h6 : c6.length = 15) (hs : isWho c0) (path : List Int) (hp : ∀ x ∈ path, 0 ≤ x ∧ x ≤ 14) (hpl : path.length ≤ 100) : ∀ (n k : Nat) (ks : List S), path.length - k < n → k ≤ path.length → ks.length = 15 →
    LP_109_5 L (D + 1) n (ks.map rS) (path.map rI) c0 (bs c1) (bs c2) c3 c4 (bs c5) (c6.map rS) (c7.map rB) (bs c8) (bs c9) (bs c10) (bs c11) (bs c12) ks.length path.length k = some (.bool (decide (c6 = overlay c6 (path.drop k) ks)), []) := by
  intro n
  induction n with
  | zero => intro k ks h; omega
  | succ n ih =>
    intro k ks hn hk h15
    rw [LP_109_5_succ]
    by_cases h : k < path.length
    · have h' : (k : Int) < path.length := by omega
      obtain ⟨x0, x1⟩ := hp (ix path (k : Int)) (by rw [ix_nat path k h]; exact List.getElem_mem h)
      have g1 : ix path (k : Int) < c6.length := by omega
      have g2 : ix path (k : Int) < ks.length := by omega
      have := ih (k + 1) (ks.set (ix path (k : Int)).toNat (ix c6 (ix path (k : Int)))) (by omega) (by omega) (by simp; exact h15)
      rw [List.length_set] at this
      rw [ix_drop path k h]
      simp (disch := omega) only [bnd_some', br_true', gInt_i, gStr_s, iEq_dec, iLt_dec, iLe_dec, nrows_map, decide_true, Int.reduceLE, ↓dec_selfI, c_S0, setRow_S, rowLen_S, rowAt_S, set_S, rowZ_S, c_I0, rowAt_I, rowZ_I, h', iAdd_n1, this]
      rfl
    · have h' : ¬ (k : Int) < path.length := by omega
      simp (disch := omega) only [bnd_some', br_true', br_false', gBool_b, iEq_dec, iLt_dec, nrows_map, decide_false, ↓dec_selfI, h', t_l5Keys _ _ hL]
      rw [List.drop_eq_nil_of_le (by omega)]; rfl
theorem cmtOk_parts {c : Commit} (h : cmtOk c = true) : isWho c.sender ∧ (secMade c.name).op = 1 ∧ c.tag.length + c.name.length ≤ 300 ∧ someone c.add c.sender ∧ someone c.remove c.sender ∧ treOk c.keys = true ∧ boxesOk c.boxes = true ∧ c.boxes.length ≤ 20 := by
  unfold cmtOk at h
  simp only [Bool.and_eq_true, decide_eq_true_eq] at h
  exact ⟨h.1.1, h.1.2.1, h.1.2.2.1, h.1.2.2.2.1, h.1.2.2.2.2, h.2.1, h.2.2.1, h.2.2.2.1⟩
theorem someone_R {a b : Int} (h : someone a b) : inR a := ⟨h.1, h.2.1⟩
theorem t_l5Tree (hL : 1099511627776 ≤ L) (b : Bool) (w e : Int) (ks : List S) (own : List Own) (i t : S) (h15 : ks.length = 15) (c0 : Int) (c1 c2 : S) (c3 c4 : Int) (c5 : S) (c6 : List S) (c7 : List Box) (c8 c9 c10 c11 c12 : S) (h6 : c6.length = 15) (hs : isWho c0) (ha : inR c3) (hr : inR c4) : ev E L (D + 5) 109 [.agg [.bool b, .int .i64 w, .sl (ks.map rS), .sl (own.map rO), .int .i64 e, .str (bs i), .str (bs t)], .agg [.int .i64 c0, .str (bs c1), .str (bs c2), .int .i64 c3, .int .i64 c4, .str (bs c5), .sl (c6.map rS), .sl (c7.map rB), .str (bs c8), .str (bs c9), .str (bs c10), .str (bs c11), .str (bs c12)]] [] = some (.bool (fitsTree ⟨b, w, ks, own, e, i, t⟩ ⟨c0, c1, c2, c3, c4, c5, c6, c7, c8, c9, c10, c11, c12⟩), []) := by
  rw [eq_109]
  have hb15 : (baseT ks c3 c4 c5).length = 15 := by rw [baseT_len]; exact h15
  have hlen := treUp_len (treLeaf c0)
  simp (disch := omega) only [bnd_some', br_true', gInt_i, gSl_r, gOwn_r, cellAt_zero, iEq_dec, bAnd_r, nrows_map, catR_map, gAggN_if, if_true, List.length_cons, List.length_nil, Nat.reduceAdd, okR_I, ↓dec_selfI, t_l3Copy, t_l4Base _ _ hL ks h15 c3 c4 c5 ha hr, t_TreLeaf, t_TreUp _ _ hL, mk1_I, fits_true]
  have := lp_l5Tree L (D + 3) c0 c1 c2 c3 c4 c5 c6 c7 c8 c9 c10 c11 c12 hL h6 hs (pathOf c0) (pathOf_rng hs) (by have := pathOf_len c0; omega) L 0 (baseT ks c3 c4 c5) (by have := pathOf_len c0; omega) (by omega) hb15
  rw [show ((0 : Nat) : Int) = 0 from rfl, List.drop_zero] at this
  exact this
theorem t_l5Takes (hL : 1099511627776 ≤ L) (b : Bool) (w e : Int) (ks : List S) (own : List Own) (i t : S) (hm : memOk ⟨b, w, ks, own, e, i, t⟩ = true) (c0 : Int) (c1 c2 : S) (c3 c4 : Int) (c5 : S) (c6 : List S) (c7 : List Box) (c8 c9 c10 c11 c12 : S) (hc : cmtOk ⟨c0, c1, c2, c3, c4, c5, c6, c7, c8, c9, c10, c11, c12⟩ = true) : ev E L (D + 6) 86 [.agg [.bool b, .int .i64 w, .sl (ks.map rS), .sl (own.map rO), .int .i64 e, .str (bs i), .str (bs t)], .agg [.int .i64 c0, .str (bs c1), .str (bs c2), .int .i64 c3, .int .i64 c4, .str (bs c5), .sl (c6.map rS), .sl (c7.map rB), .str (bs c8), .str (bs c9), .str (bs c10), .str (bs c11), .str (bs c12)]] [] = some (.bool (takes ⟨b, w, ks, own, e, i, t⟩ ⟨c0, c1, c2, c3, c4, c5, c6, c7, c8, c9, c10, c11, c12⟩), []) := by
  rw [eq_86]
  unfold takes
  obtain ⟨q1, q2, q3, q4, q5, q6, q7, q8⟩ := cmtOk_parts hc
  simp only at q1 q2 q3 q4 q5 q6 q7 q8
  cases b with
  | false => simp only [br_false', bNot_t, bNot_f]; simp
  | true =>
    obtain ⟨g1, g2, g3, g4, g5, g6, g7⟩ := memOk_in hm rfl
    simp only at g1 g2 g5
    have h15 := treOk_len g2
    have hlf : ∀ x : Int, isWho x → 0 ≤ treLeaf x ∧ treLeaf x < ks.length := fun x hx => by have := treLeaf_rng hx; omega
    obtain ⟨l1, l2⟩ := hlf c0 q1
    by_cases h1 : c1 = t
    case neg => simp only [br_true', br_false', bNot_t, bNot_f, sEq_bs, decide_false, false_and, h1]; simp [h1]
    have hd1 : decide (c1 = t) = true := decide_eq_true h1
    by_cases h2 : 12 ≤ e
    · have : ¬ e < 12 := by omega
      simp only [br_true', br_false', bNot_t, bNot_f, iLe_dec, sEq_bs, decide_true, hd1, h2]; simp [this]
    have h2' : e < 12 := by omega
    by_cases h3 : c0 = w
    · have hd3 : decide (¬ c0 = w) = false := decide_eq_false (fun x => x h3)
      simp only [br_true', br_false', bNot_t, bNot_f, bNot_dec, iEq_dec, iLe_dec, sEq_bs, decide_false, hd1, h2, hd3]; simp [h3]
    have hfst : decide (c1 = t ∧ e < 12 ∧ c0 ≠ w) = true := decide_eq_true ⟨h1, h2', h3⟩
    simp only [hfst, Bool.true_and]
    by_cases h4 : ix ks (treLeaf c0) = []
    · have hd4 : decide (ix ks (treLeaf c0) = []) = true := decide_eq_true h4
      simp (disch := omega) only [bnd_some', br_true', gInt_i, gStr_s, bNot_t, bNot_f, iEq_dec, iLe_dec, sEq_bs, decide_false, c_S0, rowZ_S, hd1, h2, h3, t_TreLeaf, hd4]; simp [hasLeaf, h4]
    have htree := t_l5Tree L D hL true w e ks own i t h15 c0 c1 c2 c3 c4 c5 c6 c7 c8 c9 c10 c11 c12 (treOk_len q6) q1 (someone_R q4) (someone_R q5)
    unfold changes
    by_cases h5 : 0 ≤ c4
    · obtain ⟨r1, r2⟩ := hlf c4 ⟨h5, q5.2.1⟩
      have h5' : ¬ c4 < 0 := by omega
      by_cases h6 : ix ks (treLeaf c4) = []
      · have hd6 : decide (¬ ix ks (treLeaf c4) = []) = false := decide_eq_false (fun x => x h6)
        simp (disch := omega) only [bnd_some', br_true', br_false', gInt_i, gStr_s, bNot_t, bNot_f, bNot_dec, iEq_dec, iLe_dec, sEq_bs, decide_true, decide_false, c_S0, rowZ_S, hd1, h2, h3, t_TreLeaf, h4, h5, hd6]; simp [hasLeaf, h5', h6]
      by_cases h7 : 0 ≤ c3
      · obtain ⟨a1, a2⟩ := hlf c3 ⟨h7, q4.2.1⟩
        have h7' : ¬ c3 < 0 := by omega
        by_cases h8 : c3 = c4
        · have hd8 : decide (¬ c3 = c4) = false := decide_eq_false (fun x => x h8)
          simp (disch := omega) only [bnd_some', br_true', br_false', gBool_b, gInt_i, gStr_s, bNot_t, bNot_f, bNot_dec, iEq_dec, iLe_dec, sEq_bs, decide_true, decide_false, c_S0, rowZ_S, hd1, h2, h3, t_TreLeaf, h4, h5, h6, h7, hd8, htree]
          simp [hasLeaf, h4, h6, h8]
        · by_cases h9 : ix ks (treLeaf c3) = []
          · have hd9 : decide (¬ ix ks (treLeaf c3) = []) = false := decide_eq_false (fun x => x h9)
            simp (disch := omega) only [bnd_some', br_true', br_false', gBool_b, gInt_i, gStr_s, bNot_t, bNot_f, bNot_dec, iEq_dec, iLe_dec, sEq_bs, decide_true, decide_false, c_S0, rowZ_S, hd1, h2, h3, t_TreLeaf, h4, h5, h6, h7, h8, hd9, htree]
            simp [hasLeaf, h4, h6, h9]
          · simp (disch := omega) only [bnd_some', br_true', br_false', gInt_i, gStr_s, bNot_t, bNot_f, iEq_dec, iLe_dec, sEq_bs, decide_true, decide_false, c_S0, rowZ_S, hd1, h2, h3, t_TreLeaf, h4, h5, h6, h7, h8, h9]
            simp [hasLeaf, h4, h6, h9, h7']
      · have h7' : c3 < 0 := by omega
        simp (disch := omega) only [bnd_some', br_true', br_false', gBool_b, gInt_i, gStr_s, bNot_t, bNot_f, iEq_dec, iLe_dec, sEq_bs, decide_true, decide_false, c_S0, rowZ_S, hd1, h2, h3, t_TreLeaf, h4, h5, h6, h7, htree]
        simp [hasLeaf, h4, h6, h7']
    · have h5' : c4 < 0 := by omega
      by_cases h7 : 0 ≤ c3
      · obtain ⟨a1, a2⟩ := hlf c3 ⟨h7, q4.2.1⟩
        have h7' : ¬ c3 < 0 := by omega
        have h8 : ¬ c3 = c4 := by omega
        by_cases h9 : ix ks (treLeaf c3) = []
        · have hd9 : decide (¬ ix ks (treLeaf c3) = []) = false := decide_eq_false (fun x => x h9)
          simp (disch := omega) only [bnd_some', br_true', br_false', gBool_b, gInt_i, gStr_s, bNot_t, bNot_f, bNot_dec, iEq_dec, iLe_dec, sEq_bs, decide_true, decide_false, c_S0, rowZ_S, hd1, h2, h3, t_TreLeaf, h4, h5, h7, h8, hd9, htree]
          simp [hasLeaf, h4, h9, h5']
        · simp (disch := omega) only [bnd_some', br_true', br_false', gInt_i, gStr_s, bNot_t, bNot_f, iEq_dec, iLe_dec, sEq_bs, decide_true, decide_false, c_S0, rowZ_S, hd1, h2, h3, t_TreLeaf, h4, h5, h7, h8, h9]
          simp [hasLeaf, h9, h7']
      · have h7' : c3 < 0 := by omega
        simp (disch := omega) only [bnd_some', br_true', br_false', gBool_b, gInt_i, gStr_s, bNot_t, bNot_f, iEq_dec, iLe_dec, sEq_bs, decide_false, c_S0, rowZ_S, hd1, h2, h3, t_TreLeaf, h4, h5, h7, htree]
        simp [hasLeaf, h4, h5', h7']
theorem fitsAll_nodes {m : Member} (h : fitsAll m = true) : ∀ o ∈ m.own, o.node ∈ pathOf m.who := by
  intro o ho
  unfold fitsAll at h
  rw [List.all_eq_true] at h
  obtain ⟨k, hk, rfl⟩ := List.mem_iff_getElem.1 ho
  have := h k (List.mem_range.2 hk)
  unfold fitsAt at this
  simp only [Bool.and_eq_true, decide_eq_true_eq] at this
  have h1 := this.1
  rwa [ix_nat m.own k hk] at h1
theorem memOk_nodes {m : Member} (h : memOk m = true) (hi : m.inn = true) : nodesOk m.own := fun o ho => by
  obtain ⟨g1, _, g3, _⟩ := memOk_in h hi
  exact pathOf_rng g1 _ (fitsAll_nodes g3 o ho)
theorem secPath_nodes (n : Int) (h : isNode n) (s : S) : nodesOk (secPath n s) := fun o ho => by
  have : o.node ∈ (secPath n s).map (·.node) := List.mem_map_of_mem ho
  rw [show (secPath n s).map (·.node) = n :: treUp n from pathGo_map _ _] at this
  rcases List.mem_cons.1 this with e | e
  · rw [e]; exact h
  · exact treUp_rng _ _ e
theorem meetN_le : ∀ (f a b : Nat), a ≤ 14 → b ≤ 14 → meetN f a b ≤ 14
  | 0, _, _, h, _ => h
  | f + 1, a, b, h, h' => by
    rw [meetN]
    split
    · exact h
    split
    · exact meetN_le f _ _ (by omega) h'
    · exact meetN_le f _ _ h (by omega)
theorem meet_node {a b : Int} (ha : isNode a) (hb : isNode b) : isNode (treMeet a b) := by
  unfold treMeet
  rw [if_pos ⟨ha, hb⟩]
  have := meetN_le 30 a.toNat b.toNat (by have := ha.1; have := ha.2; omega) (by have := hb.1; have := hb.2; omega)
  exact ⟨by omega, by omega⟩
theorem leaf_node {w : Int} (h : isWho w) : isNode (treLeaf w) := by have := treLeaf_rng h; exact ⟨by omega, by omega⟩
theorem keeps_len (ks : List S) (own : List Own) : (keeps ks own).length ≤ own.length := List.length_filter_le _ _
theorem under_len (own path : List Own) : (under own path).length ≤ own.length := List.length_filter_le _ _
theorem t_l5Hear (hL : 1099511627776 ≤ L) (b : Bool) (w e : Int) (ks : List S) (own : List Own) (i t : S) (hm : memOk ⟨b, w, ks, own, e, i, t⟩ = true) (hb : b = true) (hl : own.length ≤ 1000000) (c0 : Int) (c1 c2 : S) (c3 c4 : Int) (c5 : S) (c6 : List S) (c7 : List Box) (c8 c9 c10 c11 c12 : S) (hc : cmtOk ⟨c0, c1, c2, c3, c4, c5, c6, c7, c8, c9, c10, c11, c12⟩ = true) : ev E L (D + 309) 87 [.agg [.bool b, .int .i64 w, .sl (ks.map rS), .sl (own.map rO), .int .i64 e, .str (bs i), .str (bs t)], .agg [.int .i64 c0, .str (bs c1), .str (bs c2), .int .i64 c3, .int .i64 c4, .str (bs c5), .sl (c6.map rS), .sl (c7.map rB), .str (bs c8), .str (bs c9), .str (bs c10), .str (bs c11), .str (bs c12)]] [] =
    some (.tup [.agg (rM (hearPair ⟨b, w, ks, own, e, i, t⟩ ⟨c0, c1, c2, c3, c4, c5, c6, c7, c8, c9, c10, c11, c12⟩).1), .bool (hearPair ⟨b, w, ks, own, e, i, t⟩ ⟨c0, c1, c2, c3, c4, c5, c6, c7, c8, c9, c10, c11, c12⟩).2], []) := by
  rw [eq_87]
  subst hb
  obtain ⟨q1, q2, q3, q4, q5, q6, q7, q8⟩ := cmtOk_parts hc
  simp only at q1 q2 q3 q4 q5 q6 q7 q8
  obtain ⟨g1, g2, g3, g4, g5, g6, g7⟩ := memOk_in hm rfl
  simp only at g1 g2 g5 g6 g7
  have h15 := treOk_len q6
  have hmeet := meet_node (leaf_node g1) (leaf_node q1)
  unfold hearPair
  simp only
  have hfind := t_l5Find L D hL true w e (ks.map rS) own (bs i) (bs t) hl c7 (by omega)
  by_cases h1 : findBox own c7 = []
  · rw [if_pos (.inl h1)]
    have hd : decide (¬ findBox own c7 = []) = false := decide_eq_false (fun x => x h1)
    simp (disch := omega) only [bnd_some', br_true', br_false', gStr_s, bNot_dec, iEq_dec, bAnd_r, sEq_bs, nrows_map, nrows_nil, okR_S, okR_nil, ↓dec_selfI, hfind, hd, fits_true, rM]
  by_cases h2 : 292 < (findBox own c7).length
  · rw [if_pos (.inr h2)]
    have h2' : (292 : Int) < (findBox own c7).length := by omega
    simp (disch := omega) only [bnd_some', br_true', gStr_s, bNot_f, iEq_dec, iLt_dec, bAnd_r, sLen_bs, sEq_bs, nrows_map, nrows_nil, decide_true, decide_false, okR_S, okR_nil, ↓dec_selfI, hfind, h1, h2', fits_true, rM]
  rw [if_neg (fun x => x.elim h1 h2)]
  have h2' : ¬ (292 : Int) < (findBox own c7).length := by omega
  have hpl := secPath_len (treMeet (treLeaf w) (treLeaf c0)) (findBox own c7)
  have htu := treUp_len (treMeet (treLeaf w) (treLeaf c0))
  have hnodes := secPath_nodes _ hmeet (findBox own c7)
  have hlast0 : (0 : Int) ≤ ((secPath (treMeet (treLeaf w) (treLeaf c0)) (findBox own c7)).length : Int) - 1 := by omega
  have hlast1 : ((secPath (treMeet (treLeaf w) (treLeaf c0)) (findBox own c7)).length : Int) - 1 < (secPath (treMeet (treLeaf w) (treLeaf c0)) (findBox own c7)).length := by omega
  have hfresh := t_l5Fresh L D hL (secPath (treMeet (treLeaf w) (treLeaf c0)) (findBox own c7)) hnodes (by omega) c6 h15
  have hund := t_l5Under L (D + 306) hL true w e (ks.map rS) own (bs i) (bs t) hl (secPath (treMeet (treLeaf w) (treLeaf c0)) (findBox own c7)) (by omega)
  have hul := under_len own (secPath (treMeet (treLeaf w) (treLeaf c0)) (findBox own c7))
  have hkept := t_l5Kept L D hL false 0 0 [] (under own (secPath (treMeet (treLeaf w) (treLeaf c0)) (findBox own c7))) (fun o ho => memOk_nodes hm rfl o (List.mem_filter.1 ho).1) (bs []) (bs []) (by omega) c6 h15
  have hkl := keeps_len c6 (under own (secPath (treMeet (treLeaf w) (treLeaf c0)) (findBox own c7)))
  by_cases h3 : freshOk c6 (secPath (treMeet (treLeaf w) (treLeaf c0)) (findBox own c7)) = true
  case neg =>
    rw [if_neg h3]
    simp (disch := omega) only [bnd_some', br_true', br_false', gBool_b, gInt_i, gStr_s, gSl_r, bNot_f, iEq_dec, iLt_dec, bAnd_r, sLen_bs, sEq_bs, nrows_map, nrows_nil, decide_false, okR_S, okR_nil, ↓dec_selfI, catR_nil, hfind, h1, h2', fits_true, t_TreLeaf, t_TreMeet _ _ hL, t_l4Path _ _ hL, hfresh, h3, rM]
  rw [if_pos h3]
  simp (disch := omega) only [bnd_some', br_true', br_false', gBool_b, gInt_i, gStr_s, gSl_r, gOwn_r, bNot_t, bNot_f, iEq_dec, iLt_dec, bAnd_r, sLen_bs, sCat_bs, sEq_bs, nrows_map, nrows_nil, catR_map, decide_false, okR_S, okR_O, okR_nil, ↓dec_selfI, c_O1, rowZ_O, catR_nil, hfind, h1, h2', fits_true, t_TreLeaf, t_TreMeet _ _ hL, t_l4Path _ _ hL, hfresh, h3, iSub_w, iAdd_w, t_MakNext _ _ hL, t_MakEpoch _ _ hL, hund, hkept, t_SecOk _ _ hL]
  simp [hearM, rM]
theorem t_l5Same (hL : 1099511627776 ≤ L) (b : Bool) (w e : Int) (ks : List S) (own : List Own) (i t : S) (hk : ks.length ≤ 1000000) (ho : own.length ≤ 1000000) : ev E L (D + 2) 43 [.agg [.bool b, .int .i64 w, .sl (ks.map rS), .sl (own.map rO), .int .i64 e, .str (bs i), .str (bs t)]] [] = some (.agg (rM ⟨b, w, if b = true then ks else [], own, e, i, t⟩), []) := by
  rw [eq_43]
  cases b with
  | false => simp (disch := omega) only [bnd_some', br_true', gOwn_r, cellAt_zero, bNot_f, iEq_dec, bAnd_r, nrows_map, nrows_nil, gAggN_if, if_true, if_false, Bool.false_eq_true, List.length_cons, List.length_nil, Nat.reduceAdd, okR_O, okR_nil, ↓dec_selfI, catR_nil, t_l3Copy, fits_true, rM, List.map_nil]
  | true => simp (disch := omega) only [bnd_some', br_true', br_false', gOwn_r, cellAt_zero, bNot_t, iEq_dec, bAnd_r, nrows_map, nrows_nil, gAggN_if, if_true, List.length_cons, List.length_nil, Nat.reduceAdd, okR_O, okR_nil, ↓dec_selfI, catR_nil, t_l3Copy, fits_true, rM]
theorem memOk_out {m : Member} (h : memOk m = true) (hi : m.inn = false) : m = noMember := by
  unfold memOk at h
  rw [if_pos hi] at h
  simp only [decide_eq_true_eq] at h
  obtain ⟨a1, a2, a3, a4, a5, a6⟩ := h
  cases m
  simp only at hi a1 a2 a3 a4 a5 a6
  subst hi a1 a2 a3 a4 a5 a6
  rfl
theorem memOk_keys {m : Member} (h : memOk m = true) : m.keys.length ≤ 15 ∧ (if m.inn = true then m.keys else []) = m.keys := by
  cases hi : m.inn with
  | false => rw [memOk_out h hi]; simp [noMember]
  | true =>
    have := treOk_len (memOk_in h hi).2.1
    simp; omega
theorem t_MemHear (hL : 1099511627776 ≤ L) (b : Bool) (w e : Int) (ks : List S) (own : List Own) (i t : S) (hl : own.length ≤ 900000) (c0 : Int) (c1 c2 : S) (c3 c4 : Int) (c5 : S) (c6 : List S) (c7 : List Box) (c8 c9 c10 c11 c12 : S) (ht : c1.length ≤ 1000000000) : ev E L (D + 310) 63 [.agg [.bool b, .int .i64 w, .sl (ks.map rS), .sl (own.map rO), .int .i64 e, .str (bs i), .str (bs t)], .agg [.int .i64 c0, .str (bs c1), .str (bs c2), .int .i64 c3, .int .i64 c4, .str (bs c5), .sl (c6.map rS), .sl (c7.map rB), .str (bs c8), .str (bs c9), .str (bs c10), .str (bs c11), .str (bs c12)]] [] =
    some (.tup [.agg (rM (memHear ⟨b, w, ks, own, e, i, t⟩ ⟨c0, c1, c2, c3, c4, c5, c6, c7, c8, c9, c10, c11, c12⟩).1), .bool (memHear ⟨b, w, ks, own, e, i, t⟩ ⟨c0, c1, c2, c3, c4, c5, c6, c7, c8, c9, c10, c11, c12⟩).2], []) := by
  rw [eq_63]
  unfold memHear
  by_cases h1 : memOk ⟨b, w, ks, own, e, i, t⟩ = true
  case neg =>
    rw [if_neg (fun x => h1 x.1)]
    simp (disch := omega) only [bnd_some', br_false', gBool_b, bNot_t, bNot_f, t_MemOk _ _ hL, h1, rM_no]
  by_cases h2 : cmtOk ⟨c0, c1, c2, c3, c4, c5, c6, c7, c8, c9, c10, c11, c12⟩ = true
  case neg =>
    rw [if_neg (fun x => h2 x.2)]
    simp (disch := omega) only [bnd_some', br_true', gBool_b, bNot_t, bNot_f, t_MemOk _ _ hL, h1, t_CmtOk _ _ hL, h2, rM_no]
  rw [if_pos ⟨h1, h2⟩]
  have htk := t_l5Takes L (D + 303) hL b w e ks own i t h1 c0 c1 c2 c3 c4 c5 c6 c7 c8 c9 c10 c11 c12 h2
  obtain ⟨kl, ke⟩ := memOk_keys h1
  simp only at kl ke
  have hsame := t_l5Same L (D + 307) hL b w e ks own i t (by omega) (by omega)
  rw [ke] at hsame
  simp only [rM] at hsame
  by_cases h3 : takes ⟨b, w, ks, own, e, i, t⟩ ⟨c0, c1, c2, c3, c4, c5, c6, c7, c8, c9, c10, c11, c12⟩ = true
  case neg =>
    rw [if_neg h3]
    simp (disch := omega) only [bnd_some', br_true', br_false', gBool_b, gInt_i, gStr_s, gSl_r, cellAt_zero, cellAt_succ, bNot_t, bNot_f, gAggN_if, if_true, List.length_cons, List.length_nil, Nat.reduceAdd, t_MemOk _ _ hL, h1, t_CmtOk _ _ hL, h2, htk, h3, hsame, rM]
  rw [if_pos h3]
  have hb : b = true := by unfold takes at h3; simp only [Bool.and_eq_true] at h3; exact h3.1
  by_cases h4 : c4 = w
  · rw [if_pos h4]
    have hd : decide (c4 = w) = true := decide_eq_true h4
    simp (disch := omega) only [bnd_some', br_true', br_false', gBool_b, bNot_t, bNot_f, iEq_dec, t_MemOk _ _ hL, h1, t_CmtOk _ _ hL, h2, htk, h3, hd, rM_no]
  rw [if_neg h4]
  have hh := t_l5Hear L D hL b w e ks own i t h1 hb (by omega) c0 c1 c2 c3 c4 c5 c6 c7 c8 c9 c10 c11 c12 h2
  simp only [rM] at hh
  by_cases h5 : (hearPair ⟨b, w, ks, own, e, i, t⟩ ⟨c0, c1, c2, c3, c4, c5, c6, c7, c8, c9, c10, c11, c12⟩).2 = true
  case neg =>
    rw [if_neg h5]
    simp (disch := omega) only [bnd_some', br_true', br_false', gBool_b, gInt_i, gStr_s, gSl_r, cellAt_zero, cellAt_succ, bNot_t, bNot_f, iEq_dec, gTupN_if, gAggN_if, decide_false, if_true, List.length_cons, List.length_nil, Nat.reduceAdd, t_MemOk _ _ hL, h1, t_CmtOk _ _ hL, h2, htk, h3, h4, hh, h5, hsame, rM]
  rw [if_pos h5]
  have hx : (hearPair ⟨b, w, ks, own, e, i, t⟩ ⟨c0, c1, c2, c3, c4, c5, c6, c7, c8, c9, c10, c11, c12⟩).1.inn = true ∧ (hearPair ⟨b, w, ks, own, e, i, t⟩ ⟨c0, c1, c2, c3, c4, c5, c6, c7, c8, c9, c10, c11, c12⟩).1.keys.length ≤ 1000000 ∧ (hearPair ⟨b, w, ks, own, e, i, t⟩ ⟨c0, c1, c2, c3, c4, c5, c6, c7, c8, c9, c10, c11, c12⟩).1.own.length ≤ 1000000 := by
    have h15 := treOk_len (cmtOk_parts h2).2.2.2.2.2.1
    simp only at h15
    unfold hearPair at h5 ⊢
    simp only at h5 ⊢
    split at h5
    · cases h5
    · rename_i g
      rw [if_neg g]
      split at h5
      · rename_i g'
        rw [if_pos g']
        have e1 := under_len own (secPath (treMeet (treLeaf w) (treLeaf c0)) (findBox own c7))
        have e2 := keeps_len c6 (under own (secPath (treMeet (treLeaf w) (treLeaf c0)) (findBox own c7)))
        have e3 := secPath_len (treMeet (treLeaf w) (treLeaf c0)) (findBox own c7)
        have e4 := treUp_len (treMeet (treLeaf w) (treLeaf c0))
        simp only [hearM, List.length_append]
        refine ⟨trivial, by omega, by omega⟩
      · cases h5
  generalize hearPair ⟨b, w, ks, own, e, i, t⟩ ⟨c0, c1, c2, c3, c4, c5, c6, c7, c8, c9, c10, c11, c12⟩ = p at hx h5 hh ⊢
  have hs2 := t_l5Same L (D + 307) hL p.1.inn p.1.who p.1.epoch p.1.keys p.1.own p.1.init p.1.tag hx.2.1 hx.2.2
  rw [hx.1] at hs2 hh
  simp only [rM, if_true] at hs2
  simp (disch := omega) only [bnd_some', br_true', br_false', gBool_b, gInt_i, gStr_s, gSl_r, cellAt_zero, cellAt_succ, bNot_t, bNot_f, iEq_dec, gTupN_if, gAggN_if, decide_false, if_true, List.length_cons, List.length_nil, Nat.reduceAdd, t_MemOk _ _ hL, h1, t_CmtOk _ _ hL, h2, htk, h3, h4, hh, h5, hs2, rM, hx.1]
theorem lp_l5Count (s : S) (hs : s.length ≤ 1000000000) : ∀ (n k c : Nat), s.length - k < n → k ≤ s.length → c ≤ k → LP_89_3 L D n (bs s) c k = some (.int .i64 ((c + count (s.drop k) : Nat) : Int), []) := by
  intro n
  induction n with
  | zero => intro k c h; omega
  | succ n ih =>
    intro k c hn hk hc
    rw [LP_89_3_succ]
    by_cases h : k < s.length
    · have h' : (k : Int) < s.length := by omega
      rw [ix_drop s k h]
      have hb := toNat_lt (ix s k)
      by_cases h1 : ((ix s (k : Int)).toNat : Int) = 59
      · have hd : decide (((ix s (k : Int)).toNat : Int) = 59) = true := decide_eq_true h1
        simp (disch := omega) only [bnd_some', br_true', iEq_dec, iLt_dec, sLen_bs, decide_true, h', sAt_ok, hd, iAdd_n1, ih (k + 1) (c + 1) (by omega) (by omega) (by omega)]
        have e1 : ix s (k : Int) = 59 := UInt8.toNat_inj.1 (by have : (59 : UInt8).toNat = 59 := rfl; omega)
        congr 4
        unfold count
        rw [List.filter_cons_of_pos (by simp [e1])]
        simp; omega
      · simp (disch := omega) only [bnd_some', br_true', br_false', iEq_dec, iLt_dec, sLen_bs, decide_true, decide_false, h', sAt_ok, h1, iAdd_n1, ih (k + 1) c (by omega) (by omega) (by omega)]
        have e1 : ¬ ix s (k : Int) = 59 := fun e => h1 (by rw [e]; rfl)
        unfold count
        rw [List.filter_cons_of_neg (by simp [e1])]
    · have h' : ¬ (k : Int) < s.length := by omega
      simp (disch := omega) only [br_false', iLt_dec, sLen_bs, decide_false, h']
      rw [List.drop_eq_nil_of_le (by omega)]; rfl
theorem t_l5Count (hL : 1099511627776 ≤ L) (s : S) (hs : s.length ≤ 1000000000) : ev E L (D + 1) 89 [.str (bs s)] [] = some (.int .i64 (count s : Nat), []) := by
  rw [eq_89]
  have := lp_l5Count L D s hs L 0 0 (by omega) (by omega) (by omega)
  rw [List.drop_zero, Nat.zero_add] at this
  exact this
theorem count_le (s : S) : count s ≤ s.length := List.length_filter_le _ _
theorem t_MemJoin (hL : 1099511627776 ≤ L) (w : Int) (leaf key : S) (c0 : Int) (c1 c2 : S) (c3 c4 : Int) (c5 : S) (c6 : List S) (c7 : List Box) (c8 c9 c10 c11 c12 : S) (ht : c1.length ≤ 1000000000) : ev E L (D + 310) 64 [.int .i64 w, .str (bs leaf), .str (bs key), .agg [.int .i64 c0, .str (bs c1), .str (bs c2), .int .i64 c3, .int .i64 c4, .str (bs c5), .sl (c6.map rS), .sl (c7.map rB), .str (bs c8), .str (bs c9), .str (bs c10), .str (bs c11), .str (bs c12)]] [] =
    some (.tup (match memJoin w leaf key ⟨c0, c1, c2, c3, c4, c5, c6, c7, c8, c9, c10, c11, c12⟩ with | some x => [.agg (rM x), .bool true] | none => [.agg (rM noMember), .bool false]), []) := by
  rw [eq_64]
  unfold memJoin
  have no : ∀ P : Prop, ∀ [Decidable P], ¬ P → (match (if P then some (joinM w leaf ⟨c0, c1, c2, c3, c4, c5, c6, c7, c8, c9, c10, c11, c12⟩) else none) with | some x => [MV.agg (rM x), .bool true] | none => [.agg (rM noMember), .bool false]) = [.agg (rM noMember), .bool false] := fun P _ h => by rw [if_neg h]
  by_cases h1 : cmtOk ⟨c0, c1, c2, c3, c4, c5, c6, c7, c8, c9, c10, c11, c12⟩ = true
  case neg => rw [no _ (fun x => h1 x.1)]; simp (disch := omega) only [bnd_some', br_false', gBool_b, bNot_t, bNot_f, t_CmtOk _ _ hL, h1, rM_no]
  obtain ⟨q1, q2, q3, q4, q5, q6, q7, q8⟩ := cmtOk_parts h1
  simp only at q1 q2 q3 q4 q5 q6 q7 q8
  by_cases h2 : c3 < 0
  · rw [no _ (fun x => by have := x.2.1; simp only at this; omega)]; simp (disch := omega) only [bnd_some', br_true', br_false', gBool_b, bNot_t, bNot_f, iLt_dec, decide_true, t_CmtOk _ _ hL, h1, h2, rM_no]
  by_cases h3 : c3 = w
  case neg => rw [no _ (fun x => h3 x.2.2.1)]; simp (disch := omega) only [bnd_some', br_true', br_false', gBool_b, bNot_t, bNot_f, iEq_dec, iLt_dec, decide_false, t_CmtOk _ _ hL, h1, h2, h3, rM_no]
  have hd3 : decide (¬ c3 = w) = false := decide_eq_false (fun x => x h3)
  by_cases h4 : secOk leaf = true
  case neg => rw [no _ (fun x => h4 x.2.2.2.1)]; simp (disch := omega) only [bnd_some', br_true', br_false', gBool_b, bNot_t, bNot_f, bNot_dec, iEq_dec, iLt_dec, decide_false, t_CmtOk _ _ hL, h1, h2, hd3, t_SecOk _ _ hL, h4, rM_no]
  by_cases h5 : secOk key = true
  case neg => rw [no _ (fun x => h5 x.2.2.2.2.1)]; simp (disch := omega) only [bnd_some', br_true', br_false', gBool_b, bNot_t, bNot_f, bNot_dec, iEq_dec, iLt_dec, decide_false, t_CmtOk _ _ hL, h1, h2, hd3, t_SecOk _ _ hL, h4, h5, rM_no]
  by_cases h6 : makKey leaf = c5
  case neg => rw [no _ (fun x => h6 x.2.2.2.2.2.1)]; simp (disch := omega) only [bnd_some', br_true', br_false', gBool_b, gStr_s, bNot_t, bNot_f, bNot_dec, iEq_dec, iLt_dec, sEq_bs, decide_false, t_CmtOk _ _ hL, h1, h2, hd3, t_SecOk _ _ hL, h4, h5, t_MakKey _ _ hL, h6, rM_no]
  have hd6 : decide (¬ makKey leaf = c5) = false := decide_eq_false (fun x => x h6)
  by_cases h7 : makKey key = c8
  case neg => rw [no _ (fun x => h7 x.2.2.2.2.2.2.1)]; simp (disch := omega) only [bnd_some', br_true', gBool_b, gStr_s, bNot_t, bNot_f, bNot_dec, iEq_dec, iLt_dec, sEq_bs, decide_false, t_CmtOk _ _ hL, h1, h2, hd3, t_SecOk _ _ hL, h4, h5, t_MakKey _ _ hL, hd6, h7, rM_no]
  have hd7 : decide (¬ makKey key = c8) = false := decide_eq_false (fun x => x h7)
  have h15 := treOk_len q6
  by_cases h8 : c12.length ≤ 292
  case neg =>
    have h8' : (292 : Int) < c12.length := by omega
    rw [no _ (fun x => h8 x.2.2.2.2.2.2.2.1)]; simp (disch := omega) only [bnd_some', br_true', br_false', gBool_b, gStr_s, bNot_t, bNot_f, bNot_dec, iEq_dec, iLt_dec, bAnd_r, sLen_bs, sEq_bs, nrows_map, nrows_nil, decide_true, decide_false, okR_S, okR_nil, ↓dec_selfI, t_CmtOk _ _ hL, h1, h2, hd3, t_SecOk _ _ hL, h4, h5, t_MakKey _ _ hL, hd6, hd7, fits_true, h8', rM_no]
  have h8' : ¬ (292 : Int) < c12.length := by omega
  have hpl := secPath_len (treMeet (treLeaf w) (treLeaf c0)) c12
  have htu := treUp_len (treMeet (treLeaf w) (treLeaf c0))
  have hcnt := count_le c1
  have hok := t_MemOk L D hL true w (count c1 + 1) c6 (⟨treLeaf w, leaf⟩ :: secPath (treMeet (treLeaf w) (treLeaf c0)) c12) c10 (c1 ++ c2) (by rw [List.length_cons]; omega)
  have hjm : joinM w leaf ⟨c0, c1, c2, c3, c4, c5, c6, c7, c8, c9, c10, c11, c12⟩ = ⟨true, w, c6, ⟨treLeaf w, leaf⟩ :: secPath (treMeet (treLeaf w) (treLeaf c0)) c12, count c1 + 1, c10, c1 ++ c2⟩ := rfl
  have hcons : [(⟨treLeaf w, leaf⟩ : Own)] ++ secPath (treMeet (treLeaf w) (treLeaf c0)) c12 = ⟨treLeaf w, leaf⟩ :: secPath (treMeet (treLeaf w) (treLeaf c0)) c12 := rfl
  by_cases h9 : memOk (joinM w leaf ⟨c0, c1, c2, c3, c4, c5, c6, c7, c8, c9, c10, c11, c12⟩) = true
  · rw [if_pos ⟨h1, by simp only; omega, h3, h4, h5, h6, h7, h8, h9⟩]
    rw [hjm] at h9
    simp (disch := omega) only [bnd_some', br_true', br_false', gBool_b, gInt_i, gStr_s, gSl_r, bNot_t, bNot_f, bNot_dec, iEq_dec, iLt_dec, bAnd_r, sLen_bs, sCat_bs, sEq_bs, nrows_map, nrows_nil, catR_map, decide_false, List.length_cons, List.length_nil, Nat.reduceAdd, okR_S, okR_O, okR_nil, ↓dec_selfI, catR_nil, t_CmtOk _ _ hL, h1, h2, hd3, t_SecOk _ _ hL, h4, h5, t_MakKey _ _ hL, hd6, hd7, fits_true, h8', t_TreLeaf, t_TreMeet _ _ hL, t_l4Path _ _ hL, mk1_O, t_l5Count _ _ hL, iAdd_w, hcons, hok, h9, rM, hjm]
  · rw [no _ (fun x => h9 x.2.2.2.2.2.2.2.2)]
    rw [hjm] at h9
    simp (disch := omega) only [bnd_some', br_true', br_false', gBool_b, gInt_i, gStr_s, gSl_r, bNot_t, bNot_f, bNot_dec, iEq_dec, iLt_dec, bAnd_r, sLen_bs, sCat_bs, sEq_bs, nrows_map, nrows_nil, catR_map, decide_false, List.length_cons, List.length_nil, Nat.reduceAdd, okR_S, okR_O, okR_nil, ↓dec_selfI, catR_nil, t_CmtOk _ _ hL, h1, h2, hd3, t_SecOk _ _ hL, h4, h5, t_MakKey _ _ hL, hd6, hd7, fits_true, h8', t_TreLeaf, t_TreMeet _ _ hL, t_l4Path _ _ hL, mk1_O, t_l5Count _ _ hL, iAdd_w, hcons, hok, h9, rM_no]
end
end Kw
