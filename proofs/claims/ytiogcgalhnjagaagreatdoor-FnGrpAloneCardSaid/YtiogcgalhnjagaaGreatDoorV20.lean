import Derived.Test.YtiogcgalhnjagaaGreatDoorV16
import Derived.Test.YtiogcgalhnjagaaGreatDoorV17
import Derived.Test.YtiogcgalhnjagaaGreatDoorV18
import Derived.Test.YtiogcgalhnjagaaGreatDoorV19
namespace Kw
open Go
set_option maxRecDepth 100000
set_option linter.unusedVariables false
set_option linter.unusedSimpArgs false
theorem br_f {R : Type} (x y : Option R) : br false x y = y := rfl
theorem br_t {R : Type} (x y : Option R) : br true x y = x := rfl
theorem lpstep {r0 r1 r2 r3 r4 r5 r6 r7 r8 r9 q0 q1 q2 q3 q4 q5 q6 q7 q8 q9 : List Row} {w n k k1 : Int} {m : Nat} {z : Option Res} (hs : FF 60 8 [.agg [.sl r0, .sl r1, .sl r2, .sl r3, .sl r4, .sl r5, .sl r6, .sl r7, .sl r8, .sl r9], .agg [.int .i64 1, .int .i64 w, .int .i64 (-1), .int .i64 (-1), .int .i64 0, .str (bs [])]] [] = some (.agg [.sl q0, .sl q1, .sl q2, .sl q3, .sl q4, .sl q5, .sl q6, .sl q7, .sl q8, .sl q9], [])) (h : iLt k n = true) (hk : iAdd .i64 k 1 = k1)
    (hz : LP_3_7 LL 60 m q0 q1 q2 q3 q4 q5 q6 q7 q8 q9 w n k1 = z) : LP_3_7 LL 60 (m + 1) r0 r1 r2 r3 r4 r5 r6 r7 r8 r9 w n k = z := by
  rw [FF_eq] at hs
  rw [LP_3_7_succ, h, br_t, hs, hk]
  exact hz
theorem lpend {r0 r1 r2 r3 r4 r5 r6 r7 r8 r9 : List Row} {w n : Int} {m : Nat} {z : Option Res} (he : P_3_7 (FF 60) 1 r0 r1 r2 r3 r4 r5 r6 r7 r8 r9 w n n = z) (h : iLt n n = false) : LP_3_7 LL 60 (m + 1) r0 r1 r2 r3 r4 r5 r6 r7 r8 r9 w n n = z := by
  rw [FF_eq, p_3_7] at he
  rw [← he, LP_3_7_succ, LP_3_7_succ, h, br_f, br_f]
theorem fin_w {q0 q1 q2 q3 q4 q5 q6 q7 q8 q9 r : List Row} {w n : Int} (hs : FF 60 7 [.int .i64 w] [] = some (.agg [.sl q0, .sl q1, .sl q2, .sl q3, .sl q4, .sl q5, .sl q6, .sl q7, .sl q8, .sl q9], [])) (hl : LP_3_7 LL 60 LL q0 q1 q2 q3 q4 q5 q6 q7 q8 q9 w n 0 = some (.bool true, [])) (h1 : iRem (nrows r) 8 = w) (h2 : iAdd .i64 1 (iRem (nrows r) 12) = n) (hb : iLt 1048576 (nrows r) = false) :
    ev E LL 61 3 [.sl r] [] = some (.bool true, []) := by
  rw [FF_eq] at hs
  rw [eq_3, hb, br_f, h1, h2, show iEq 8 0 = false from rfl, br_f, hs, show iEq 12 0 = false from rfl]
  exact hl
theorem l_0_1 (m : Nat) : LP_3_7 LL 60 (m + 2) a_0_0 [] [] f_0_0 [] [] [] z8 zw [] 0 1 0 = some (.bool true, []) := lpstep s_0_0 rfl rfl (lpend e_0_1 rfl)
theorem l_0_5 (m : Nat) : LP_3_7 LL 60 (m + 6) a_0_0 [] [] f_0_0 [] [] [] z8 zw [] 0 5 0 = some (.bool true, []) := lpstep s_0_0 rfl rfl (lpstep s_0_1 rfl rfl (lpstep s_0_2 rfl rfl (lpstep s_0_3 rfl rfl (lpstep s_0_4 rfl rfl (lpend e_0_5 rfl)))))
theorem l_0_9 (m : Nat) : LP_3_7 LL 60 (m + 10) a_0_0 [] [] f_0_0 [] [] [] z8 zw [] 0 9 0 = some (.bool true, []) := lpstep s_0_0 rfl rfl (lpstep s_0_1 rfl rfl (lpstep s_0_2 rfl rfl (lpstep s_0_3 rfl rfl (lpstep s_0_4 rfl rfl (lpstep s_0_5 rfl rfl (lpstep s_0_6 rfl rfl (lpstep s_0_7 rfl rfl (lpstep s_0_8 rfl rfl (lpend e_0_9 rfl)))))))))
theorem l_1_2 (m : Nat) : LP_3_7 LL 60 (m + 3) a_1_0 [] [] f_1_0 [] [] [] z8 zw [] 1 2 0 = some (.bool true, []) := lpstep s_1_0 rfl rfl (lpstep s_1_1 rfl rfl (lpend e_1_2 rfl))
theorem l_1_6 (m : Nat) : LP_3_7 LL 60 (m + 7) a_1_0 [] [] f_1_0 [] [] [] z8 zw [] 1 6 0 = some (.bool true, []) := lpstep s_1_0 rfl rfl (lpstep s_1_1 rfl rfl (lpstep s_1_2 rfl rfl (lpstep s_1_3 rfl rfl (lpstep s_1_4 rfl rfl (lpstep s_1_5 rfl rfl (lpend e_1_6 rfl))))))
theorem l_1_10 (m : Nat) : LP_3_7 LL 60 (m + 11) a_1_0 [] [] f_1_0 [] [] [] z8 zw [] 1 10 0 = some (.bool true, []) := lpstep s_1_0 rfl rfl (lpstep s_1_1 rfl rfl (lpstep s_1_2 rfl rfl (lpstep s_1_3 rfl rfl (lpstep s_1_4 rfl rfl (lpstep s_1_5 rfl rfl (lpstep s_1_6 rfl rfl (lpstep s_1_7 rfl rfl (lpstep s_1_8 rfl rfl (lpstep s_1_9 rfl rfl (lpend e_1_10 rfl))))))))))
theorem l_2_3 (m : Nat) : LP_3_7 LL 60 (m + 4) a_2_0 [] [] f_2_0 [] [] [] z8 zw [] 2 3 0 = some (.bool true, []) := lpstep s_2_0 rfl rfl (lpstep s_2_1 rfl rfl (lpstep s_2_2 rfl rfl (lpend e_2_3 rfl)))
theorem l_2_7 (m : Nat) : LP_3_7 LL 60 (m + 8) a_2_0 [] [] f_2_0 [] [] [] z8 zw [] 2 7 0 = some (.bool true, []) := lpstep s_2_0 rfl rfl (lpstep s_2_1 rfl rfl (lpstep s_2_2 rfl rfl (lpstep s_2_3 rfl rfl (lpstep s_2_4 rfl rfl (lpstep s_2_5 rfl rfl (lpstep s_2_6 rfl rfl (lpend e_2_7 rfl)))))))
theorem l_2_11 (m : Nat) : LP_3_7 LL 60 (m + 12) a_2_0 [] [] f_2_0 [] [] [] z8 zw [] 2 11 0 = some (.bool true, []) := lpstep s_2_0 rfl rfl (lpstep s_2_1 rfl rfl (lpstep s_2_2 rfl rfl (lpstep s_2_3 rfl rfl (lpstep s_2_4 rfl rfl (lpstep s_2_5 rfl rfl (lpstep s_2_6 rfl rfl (lpstep s_2_7 rfl rfl (lpstep s_2_8 rfl rfl (lpstep s_2_9 rfl rfl (lpstep s_2_10 rfl rfl (lpend e_2_11 rfl)))))))))))
theorem l_3_4 (m : Nat) : LP_3_7 LL 60 (m + 5) a_3_0 [] [] f_3_0 [] [] [] z8 zw [] 3 4 0 = some (.bool true, []) := lpstep s_3_0 rfl rfl (lpstep s_3_1 rfl rfl (lpstep s_3_2 rfl rfl (lpstep s_3_3 rfl rfl (lpend e_3_4 rfl))))
theorem l_3_8 (m : Nat) : LP_3_7 LL 60 (m + 9) a_3_0 [] [] f_3_0 [] [] [] z8 zw [] 3 8 0 = some (.bool true, []) := lpstep s_3_0 rfl rfl (lpstep s_3_1 rfl rfl (lpstep s_3_2 rfl rfl (lpstep s_3_3 rfl rfl (lpstep s_3_4 rfl rfl (lpstep s_3_5 rfl rfl (lpstep s_3_6 rfl rfl (lpstep s_3_7 rfl rfl (lpend e_3_8 rfl))))))))
theorem l_3_12 (m : Nat) : LP_3_7 LL 60 (m + 13) a_3_0 [] [] f_3_0 [] [] [] z8 zw [] 3 12 0 = some (.bool true, []) := lpstep s_3_0 rfl rfl (lpstep s_3_1 rfl rfl (lpstep s_3_2 rfl rfl (lpstep s_3_3 rfl rfl (lpstep s_3_4 rfl rfl (lpstep s_3_5 rfl rfl (lpstep s_3_6 rfl rfl (lpstep s_3_7 rfl rfl (lpstep s_3_8 rfl rfl (lpstep s_3_9 rfl rfl (lpstep s_3_10 rfl rfl (lpstep s_3_11 rfl rfl (lpend e_3_12 rfl))))))))))))
theorem l_4_1 (m : Nat) : LP_3_7 LL 60 (m + 2) a_4_0 [] [] f_4_0 [] [] [] z8 zw [] 4 1 0 = some (.bool true, []) := lpstep s_4_0 rfl rfl (lpend e_4_1 rfl)
theorem l_4_5 (m : Nat) : LP_3_7 LL 60 (m + 6) a_4_0 [] [] f_4_0 [] [] [] z8 zw [] 4 5 0 = some (.bool true, []) := lpstep s_4_0 rfl rfl (lpstep s_4_1 rfl rfl (lpstep s_4_2 rfl rfl (lpstep s_4_3 rfl rfl (lpstep s_4_4 rfl rfl (lpend e_4_5 rfl)))))
theorem l_4_9 (m : Nat) : LP_3_7 LL 60 (m + 10) a_4_0 [] [] f_4_0 [] [] [] z8 zw [] 4 9 0 = some (.bool true, []) := lpstep s_4_0 rfl rfl (lpstep s_4_1 rfl rfl (lpstep s_4_2 rfl rfl (lpstep s_4_3 rfl rfl (lpstep s_4_4 rfl rfl (lpstep s_4_5 rfl rfl (lpstep s_4_6 rfl rfl (lpstep s_4_7 rfl rfl (lpstep s_4_8 rfl rfl (lpend e_4_9 rfl)))))))))
theorem l_5_2 (m : Nat) : LP_3_7 LL 60 (m + 3) a_5_0 [] [] f_5_0 [] [] [] z8 zw [] 5 2 0 = some (.bool true, []) := lpstep s_5_0 rfl rfl (lpstep s_5_1 rfl rfl (lpend e_5_2 rfl))
theorem l_5_6 (m : Nat) : LP_3_7 LL 60 (m + 7) a_5_0 [] [] f_5_0 [] [] [] z8 zw [] 5 6 0 = some (.bool true, []) := lpstep s_5_0 rfl rfl (lpstep s_5_1 rfl rfl (lpstep s_5_2 rfl rfl (lpstep s_5_3 rfl rfl (lpstep s_5_4 rfl rfl (lpstep s_5_5 rfl rfl (lpend e_5_6 rfl))))))
theorem l_5_10 (m : Nat) : LP_3_7 LL 60 (m + 11) a_5_0 [] [] f_5_0 [] [] [] z8 zw [] 5 10 0 = some (.bool true, []) := lpstep s_5_0 rfl rfl (lpstep s_5_1 rfl rfl (lpstep s_5_2 rfl rfl (lpstep s_5_3 rfl rfl (lpstep s_5_4 rfl rfl (lpstep s_5_5 rfl rfl (lpstep s_5_6 rfl rfl (lpstep s_5_7 rfl rfl (lpstep s_5_8 rfl rfl (lpstep s_5_9 rfl rfl (lpend e_5_10 rfl))))))))))
theorem l_6_3 (m : Nat) : LP_3_7 LL 60 (m + 4) a_6_0 [] [] f_6_0 [] [] [] z8 zw [] 6 3 0 = some (.bool true, []) := lpstep s_6_0 rfl rfl (lpstep s_6_1 rfl rfl (lpstep s_6_2 rfl rfl (lpend e_6_3 rfl)))
theorem l_6_7 (m : Nat) : LP_3_7 LL 60 (m + 8) a_6_0 [] [] f_6_0 [] [] [] z8 zw [] 6 7 0 = some (.bool true, []) := lpstep s_6_0 rfl rfl (lpstep s_6_1 rfl rfl (lpstep s_6_2 rfl rfl (lpstep s_6_3 rfl rfl (lpstep s_6_4 rfl rfl (lpstep s_6_5 rfl rfl (lpstep s_6_6 rfl rfl (lpend e_6_7 rfl)))))))
theorem l_6_11 (m : Nat) : LP_3_7 LL 60 (m + 12) a_6_0 [] [] f_6_0 [] [] [] z8 zw [] 6 11 0 = some (.bool true, []) := lpstep s_6_0 rfl rfl (lpstep s_6_1 rfl rfl (lpstep s_6_2 rfl rfl (lpstep s_6_3 rfl rfl (lpstep s_6_4 rfl rfl (lpstep s_6_5 rfl rfl (lpstep s_6_6 rfl rfl (lpstep s_6_7 rfl rfl (lpstep s_6_8 rfl rfl (lpstep s_6_9 rfl rfl (lpstep s_6_10 rfl rfl (lpend e_6_11 rfl)))))))))))
theorem l_7_4 (m : Nat) : LP_3_7 LL 60 (m + 5) a_7_0 [] [] f_7_0 [] [] [] z8 zw [] 7 4 0 = some (.bool true, []) := lpstep s_7_0 rfl rfl (lpstep s_7_1 rfl rfl (lpstep s_7_2 rfl rfl (lpstep s_7_3 rfl rfl (lpend e_7_4 rfl))))
theorem l_7_8 (m : Nat) : LP_3_7 LL 60 (m + 9) a_7_0 [] [] f_7_0 [] [] [] z8 zw [] 7 8 0 = some (.bool true, []) := lpstep s_7_0 rfl rfl (lpstep s_7_1 rfl rfl (lpstep s_7_2 rfl rfl (lpstep s_7_3 rfl rfl (lpstep s_7_4 rfl rfl (lpstep s_7_5 rfl rfl (lpstep s_7_6 rfl rfl (lpstep s_7_7 rfl rfl (lpend e_7_8 rfl))))))))
theorem l_7_12 (m : Nat) : LP_3_7 LL 60 (m + 13) a_7_0 [] [] f_7_0 [] [] [] z8 zw [] 7 12 0 = some (.bool true, []) := lpstep s_7_0 rfl rfl (lpstep s_7_1 rfl rfl (lpstep s_7_2 rfl rfl (lpstep s_7_3 rfl rfl (lpstep s_7_4 rfl rfl (lpstep s_7_5 rfl rfl (lpstep s_7_6 rfl rfl (lpstep s_7_7 rfl rfl (lpstep s_7_8 rfl rfl (lpstep s_7_9 rfl rfl (lpstep s_7_10 rfl rfl (lpstep s_7_11 rfl rfl (lpend e_7_12 rfl))))))))))))
theorem nrows_l (l : List UInt8) : nrows (l.map fun x => [MV.int .u8 x.toNat]) = (l.length : Int) := by unfold nrows; simp
theorem rem_nat (a b : Nat) : iRem (a : Int) (b : Int) = ((a % b : Nat) : Int) := by
  unfold iRem
  rw [Int.tmod_eq_emod_of_nonneg (by omega)]
  omega
theorem t_FnGrpAlone (l : List UInt8) : ev E LL 61 3 [.sl (l.map fun x => [.int .u8 x.toNat])] [] = some (.bool true, []) := by
  by_cases hb : iLt 1048576 (nrows (l.map fun x => [MV.int .u8 x.toNat])) = true
  · rw [eq_3, hb, br_t]
  rw [Bool.not_eq_true] at hb
  have e8 := rem_nat l.length 8
  have e12 := rem_nat l.length 12
  have h8 : iRem (nrows (l.map fun x => [MV.int .u8 x.toNat])) 8 = ((l.length % 8 : Nat) : Int) := by rw [nrows_l]; exact e8
  have h12 : iAdd .i64 1 (iRem (nrows (l.map fun x => [MV.int .u8 x.toNat])) 12) = iAdd .i64 1 ((l.length % 12 : Nat) : Int) := by rw [nrows_l]; exact congrArg _ e12
  have hc : l.length % 24 = 0 ∨ l.length % 24 = 1 ∨ l.length % 24 = 2 ∨ l.length % 24 = 3 ∨ l.length % 24 = 4 ∨ l.length % 24 = 5 ∨ l.length % 24 = 6 ∨ l.length % 24 = 7 ∨ l.length % 24 = 8 ∨ l.length % 24 = 9 ∨ l.length % 24 = 10 ∨ l.length % 24 = 11 ∨ l.length % 24 = 12 ∨ l.length % 24 = 13 ∨ l.length % 24 = 14 ∨ l.length % 24 = 15 ∨ l.length % 24 = 16 ∨ l.length % 24 = 17 ∨ l.length % 24 = 18 ∨ l.length % 24 = 19 ∨ l.length % 24 = 20 ∨ l.length % 24 = 21 ∨ l.length % 24 = 22 ∨ l.length % 24 = 23 := by omega
  rcases hc with hc | hc | hc | hc | hc | hc | hc | hc | hc | hc | hc | hc | hc | hc | hc | hc | hc | hc | hc | hc | hc | hc | hc | hc
  · exact fin_w s_0 (l_0_1 1099511627774) (h8.trans (by rw [show l.length % 8 = 0 by omega]; rfl)) (h12.trans (by rw [show l.length % 12 = 0 by omega]; rfl)) hb
  · exact fin_w s_1 (l_1_2 1099511627773) (h8.trans (by rw [show l.length % 8 = 1 by omega]; rfl)) (h12.trans (by rw [show l.length % 12 = 1 by omega]; rfl)) hb
  · exact fin_w s_2 (l_2_3 1099511627772) (h8.trans (by rw [show l.length % 8 = 2 by omega]; rfl)) (h12.trans (by rw [show l.length % 12 = 2 by omega]; rfl)) hb
  · exact fin_w s_3 (l_3_4 1099511627771) (h8.trans (by rw [show l.length % 8 = 3 by omega]; rfl)) (h12.trans (by rw [show l.length % 12 = 3 by omega]; rfl)) hb
  · exact fin_w s_4 (l_4_5 1099511627770) (h8.trans (by rw [show l.length % 8 = 4 by omega]; rfl)) (h12.trans (by rw [show l.length % 12 = 4 by omega]; rfl)) hb
  · exact fin_w s_5 (l_5_6 1099511627769) (h8.trans (by rw [show l.length % 8 = 5 by omega]; rfl)) (h12.trans (by rw [show l.length % 12 = 5 by omega]; rfl)) hb
  · exact fin_w s_6 (l_6_7 1099511627768) (h8.trans (by rw [show l.length % 8 = 6 by omega]; rfl)) (h12.trans (by rw [show l.length % 12 = 6 by omega]; rfl)) hb
  · exact fin_w s_7 (l_7_8 1099511627767) (h8.trans (by rw [show l.length % 8 = 7 by omega]; rfl)) (h12.trans (by rw [show l.length % 12 = 7 by omega]; rfl)) hb
  · exact fin_w s_0 (l_0_9 1099511627766) (h8.trans (by rw [show l.length % 8 = 0 by omega]; rfl)) (h12.trans (by rw [show l.length % 12 = 8 by omega]; rfl)) hb
  · exact fin_w s_1 (l_1_10 1099511627765) (h8.trans (by rw [show l.length % 8 = 1 by omega]; rfl)) (h12.trans (by rw [show l.length % 12 = 9 by omega]; rfl)) hb
  · exact fin_w s_2 (l_2_11 1099511627764) (h8.trans (by rw [show l.length % 8 = 2 by omega]; rfl)) (h12.trans (by rw [show l.length % 12 = 10 by omega]; rfl)) hb
  · exact fin_w s_3 (l_3_12 1099511627763) (h8.trans (by rw [show l.length % 8 = 3 by omega]; rfl)) (h12.trans (by rw [show l.length % 12 = 11 by omega]; rfl)) hb
  · exact fin_w s_4 (l_4_1 1099511627774) (h8.trans (by rw [show l.length % 8 = 4 by omega]; rfl)) (h12.trans (by rw [show l.length % 12 = 0 by omega]; rfl)) hb
  · exact fin_w s_5 (l_5_2 1099511627773) (h8.trans (by rw [show l.length % 8 = 5 by omega]; rfl)) (h12.trans (by rw [show l.length % 12 = 1 by omega]; rfl)) hb
  · exact fin_w s_6 (l_6_3 1099511627772) (h8.trans (by rw [show l.length % 8 = 6 by omega]; rfl)) (h12.trans (by rw [show l.length % 12 = 2 by omega]; rfl)) hb
  · exact fin_w s_7 (l_7_4 1099511627771) (h8.trans (by rw [show l.length % 8 = 7 by omega]; rfl)) (h12.trans (by rw [show l.length % 12 = 3 by omega]; rfl)) hb
  · exact fin_w s_0 (l_0_5 1099511627770) (h8.trans (by rw [show l.length % 8 = 0 by omega]; rfl)) (h12.trans (by rw [show l.length % 12 = 4 by omega]; rfl)) hb
  · exact fin_w s_1 (l_1_6 1099511627769) (h8.trans (by rw [show l.length % 8 = 1 by omega]; rfl)) (h12.trans (by rw [show l.length % 12 = 5 by omega]; rfl)) hb
  · exact fin_w s_2 (l_2_7 1099511627768) (h8.trans (by rw [show l.length % 8 = 2 by omega]; rfl)) (h12.trans (by rw [show l.length % 12 = 6 by omega]; rfl)) hb
  · exact fin_w s_3 (l_3_8 1099511627767) (h8.trans (by rw [show l.length % 8 = 3 by omega]; rfl)) (h12.trans (by rw [show l.length % 12 = 7 by omega]; rfl)) hb
  · exact fin_w s_4 (l_4_9 1099511627766) (h8.trans (by rw [show l.length % 8 = 4 by omega]; rfl)) (h12.trans (by rw [show l.length % 12 = 8 by omega]; rfl)) hb
  · exact fin_w s_5 (l_5_10 1099511627765) (h8.trans (by rw [show l.length % 8 = 5 by omega]; rfl)) (h12.trans (by rw [show l.length % 12 = 9 by omega]; rfl)) hb
  · exact fin_w s_6 (l_6_11 1099511627764) (h8.trans (by rw [show l.length % 8 = 6 by omega]; rfl)) (h12.trans (by rw [show l.length % 12 = 10 by omega]; rfl)) hb
  · exact fin_w s_7 (l_7_12 1099511627763) (h8.trans (by rw [show l.length % 8 = 7 by omega]; rfl)) (h12.trans (by rw [show l.length % 12 = 11 by omega]; rfl)) hb
end Kw
