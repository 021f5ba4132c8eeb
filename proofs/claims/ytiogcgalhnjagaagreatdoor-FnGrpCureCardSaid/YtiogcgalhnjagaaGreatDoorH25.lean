import Derived.Test.YtiogcgalhnjagaaGreatDoorH21
import Derived.Test.YtiogcgalhnjagaaGreatDoorH22
import Derived.Test.YtiogcgalhnjagaaGreatDoorH23
import Derived.Test.YtiogcgalhnjagaaGreatDoorH24
namespace Kw
open Go
set_option maxRecDepth 100000
set_option maxHeartbeats 0
set_option linter.unusedVariables false
set_option linter.unusedSimpArgs false
theorem z15 (R r0 r1 r2 r3 r4 r5 r6 r7 r8 r9 : List Row) (i k : Int) : LP_6_15 LL 60 0 r0 r1 r2 r3 r4 r5 r6 r7 r8 r9 R i k = none := by unfold LP_6_15 lp loopN; rfl
theorem z11 (R r0 r1 r2 r3 r4 r5 r6 r7 r8 r9 : List Row) (i k : Int) : LP_6_11 LL 60 0 r0 r1 r2 r3 r4 r5 r6 r7 r8 r9 R i k = none := by unfold LP_6_11 lp loopN; rfl
theorem z6 (R r0 : List Row) (i j k : Int) : LP_6_6 LL 60 0 r0 R i j k = none := by unfold LP_6_6 lp loopN; rfl
def Same (i : Int) (R R' : List Row) : Prop := ∀ k : Int, 0 ≤ k → k ≤ i → iRem (iAdd .i64 k (nrows R)) (iAdd .i64 i 1) = iRem (iAdd .i64 k (nrows R')) (iAdd .i64 i 1)
theorem lp15 {i : Int} {R R' : List Row} (H : Same i R R') (h100 : i ≤ 100) : ∀ (m : Nat) (r0 r1 r2 r3 r4 r5 r6 r7 r8 r9 : List Row) (k : Int), 0 ≤ k → LP_6_15 LL 60 m r0 r1 r2 r3 r4 r5 r6 r7 r8 r9 R i k = LP_6_15 LL 60 m r0 r1 r2 r3 r4 r5 r6 r7 r8 r9 R' i k
  | 0, r0, r1, r2, r3, r4, r5, r6, r7, r8, r9, k, _ => (z15 ..).trans (z15 ..).symm
  | m + 1, r0, r1, r2, r3, r4, r5, r6, r7, r8, r9, k, h0 => by
    rw [LP_6_15_succ, LP_6_15_succ]
    cases hle : iLe k i with
    | false => rw [br_f, br_f]
    | true =>
      have hk : k ≤ i := by
        rw [iLe_dec] at hle
        exact of_decide_eq_true hle
      have h1 : 0 ≤ iAdd .i64 k 1 := by
        rw [iAdd_ok (by omega) (by omega)]; omega
      rw [H k h0 hk]
      have ih := fun r0 r1 r2 r3 r4 r5 r6 r7 r8 r9 => lp15 H h100 m r0 r1 r2 r3 r4 r5 r6 r7 r8 r9 (iAdd .i64 k 1) h1
      simp only [ih]
theorem lp11 {i : Int} {R R' : List Row} (H : Same i R R') (h100 : i ≤ 100) : ∀ (m : Nat) (r0 r1 r2 r3 r4 r5 r6 r7 r8 r9 : List Row) (k : Int), LP_6_11 LL 60 m r0 r1 r2 r3 r4 r5 r6 r7 r8 r9 R i k = LP_6_11 LL 60 m r0 r1 r2 r3 r4 r5 r6 r7 r8 r9 R' i k
  | 0, r0, r1, r2, r3, r4, r5, r6, r7, r8, r9, k => (z11 ..).trans (z11 ..).symm
  | m + 1, r0, r1, r2, r3, r4, r5, r6, r7, r8, r9, k => by
    rw [LP_6_11_succ, LP_6_11_succ]
    have ih := fun r0 r1 r2 r3 r4 r5 r6 r7 r8 r9 => lp11 H h100 m r0 r1 r2 r3 r4 r5 r6 r7 r8 r9 (iAdd .i64 k 1)
    simp only [ih, lp15 H h100 LL _ _ _ _ _ _ _ _ _ _ 0 (Int.le_refl 0)]
theorem lp6 {i : Int} {R R' : List Row} (H : Same i R R') (h100 : i ≤ 100) : ∀ (m : Nat) (r0 : List Row) (j k : Int), LP_6_6 LL 60 m r0 R i j k = LP_6_6 LL 60 m r0 R' i j k
  | 0, r0, j, k => (z6 ..).trans (z6 ..).symm
  | m + 1, r0, j, k => by
    rw [LP_6_6_succ, LP_6_6_succ]
    have ih := fun r0 j k => lp6 H h100 m r0 j k
    simp only [ih, lp11 H h100]
theorem same_of (l : List UInt8) (c : Nat) (n : Nat) (hn : n ≤ 4) (hl : l.length ≤ 1048576) (hc : c ≤ 100) (h : l.length % (n + 1) = c % (n + 1)) : Same (n : Int) (rowsU l) (rowsU (cd c)) := by
  intro k h0 hk
  obtain ⟨k, rfl⟩ := Int.eq_ofNat_of_zero_le h0
  rw [nrows_l, nrows_l]
  have hcl : (cd c).length = c := by unfold cd; rw [List.length_replicate]
  rw [hcl, iAdd_ok (by omega) (by omega), iAdd_ok (by omega) (by omega), iAdd_ok (by omega) (by omega)]
  rw [← Int.natCast_add, ← Int.natCast_add, show (n : Int) + 1 = ((n + 1 : Nat) : Int) by omega, rem_nat, rem_nat, Nat.add_mod, h, ← Nat.add_mod]
theorem go_6 (l : List UInt8) (c n : Nat) (hn : n ≤ 4) (hcn : c % 4 + 1 = n) (hc : c ≤ 100) (h4 : l.length % 4 = c % 4) (h : l.length % (n + 1) = c % (n + 1)) (hl : l.length ≤ 1048576) (hb : iLt 1048576 (nrows (rowsU l)) = false) (hb' : iLt 1048576 (nrows (rowsU (cd c))) = false) :
    ev E LL 61 6 [.sl (rowsU l)] [] = ev E LL 61 6 [.sl (rowsU (cd c))] [] := by
  have e : iRem (nrows (rowsU (cd c))) 4 = iRem (nrows (rowsU l)) 4 := rem_cd l h4
  have e2 : iAdd .i64 1 (iRem (nrows (rowsU l)) 4) = (n : Int) := by
    rw [nrows_l]
    have := rem_nat l.length 4
    rw [show ((4 : Nat) : Int) = 4 from rfl] at this
    rw [this, iAdd_ok (by omega) (by omega)]; omega
  rw [eq_6, eq_6, hb, hb', br_f, br_f, e, e2, lp6 (same_of l c n hn hl hc h) (by omega)]
theorem t_FnGrpCure (l : List UInt8) : ev E LL 61 6 [.sl (l.map fun x => [.int .u8 x.toNat])] [] = some (.bool true, []) := by
  change ev E LL 61 6 [.sl (rowsU l)] [] = _
  by_cases hb : iLt 1048576 (nrows (rowsU l)) = true
  · rw [eq_6, hb, br_t]
  rw [Bool.not_eq_true] at hb
  have hl : l.length ≤ 1048576 := by
    rw [nrows_l, iLt_dec] at hb
    have := of_decide_eq_false hb
    omega
  rcases (by omega : l.length % 4 = 0 ∨ l.length % 4 = 1 ∨ l.length % 4 = 2 ∨ l.length % 4 = 3) with h | h | h | h
  · exact (go_6 l 0 1 (by decide) (by decide) (by decide) (by omega) (by omega) hl hb (by kernel_rfl)).trans k6_0
  · rcases (by omega : l.length % 3 = 0 ∨ l.length % 3 = 1 ∨ l.length % 3 = 2) with g | g | g
    · exact (go_6 l 9 2 (by decide) (by decide) (by decide) (by omega) (by omega) hl hb (by kernel_rfl)).trans k6_9
    · exact (go_6 l 1 2 (by decide) (by decide) (by decide) (by omega) (by omega) hl hb (by kernel_rfl)).trans k6_1
    · exact (go_6 l 5 2 (by decide) (by decide) (by decide) (by omega) (by omega) hl hb (by kernel_rfl)).trans k6_5
  · exact (go_6 l 2 3 (by decide) (by decide) (by decide) (by omega) (by omega) hl hb (by kernel_rfl)).trans k6_2
  · rcases (by omega : l.length % 5 = 0 ∨ l.length % 5 = 1 ∨ l.length % 5 = 2 ∨ l.length % 5 = 3 ∨ l.length % 5 = 4) with g | g | g | g | g
    · exact (go_6 l 15 4 (by decide) (by decide) (by decide) (by omega) (by omega) hl hb (by kernel_rfl)).trans k6_15
    · exact (go_6 l 11 4 (by decide) (by decide) (by decide) (by omega) (by omega) hl hb (by kernel_rfl)).trans k6_11
    · exact (go_6 l 7 4 (by decide) (by decide) (by decide) (by omega) (by omega) hl hb (by kernel_rfl)).trans k6_7
    · exact (go_6 l 3 4 (by decide) (by decide) (by decide) (by omega) (by omega) hl hb (by kernel_rfl)).trans k6_3
    · exact (go_6 l 19 4 (by decide) (by decide) (by decide) (by omega) (by omega) hl hb (by kernel_rfl)).trans k6_19
end Kw
