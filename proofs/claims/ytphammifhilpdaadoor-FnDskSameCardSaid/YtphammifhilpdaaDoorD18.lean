import Derived.Test.YtphammifhilpdaaDoorD07
import Derived.Test.YtphammifhilpdaaDoorD12
namespace Kw
set_option linter.unusedVariables false
set_option linter.unusedSimpArgs false
set_option linter.unusedSectionVars false
open Go
section
variable {R α : Type}
/-- simp goes into the first part alone -/
@[congr] theorem bnd_congr {o o' : Option α} (h : o = o') (f : α → Option R) : bnd o f = bnd o' f := by rw [h]
@[congr] theorem br_congr {b b' : Bool} (h : b = b') (x y : Option R) : br b x y = br b' x y := by rw [h]
theorem br_eq (b : Bool) (x y : Option R) : br b x y = if b = true then x else y := by cases b <;> rfl
theorem bnd_ite (p : Prop) [Decidable p] (x y : Option α) (f : α → Option R) : bnd (if p then x else y) f = if p then bnd x f else bnd y f := by by_cases h : p <;> simp [h]
theorem ite_some (p : Prop) [Decidable p] (x y : α) : (if p then some x else some y) = some (if p then x else y) := by by_cases h : p <;> simp [h]
end
section
variable {A : Type} [Inhabited A]
theorem rowZ_at (f : A → Row) {sz : Nat} (hf : ∀ x, (f x).length = sz) (l : List A) (i : Int) (h0 : 0 ≤ i) (h1 : i < l.length) : rowZ sz (l.map f) i = some (f (ix l i)) := by
  have h : i.toNat < l.length := by omega
  unfold rowZ
  rw [if_pos h0, List.getElem?_map, List.getElem?_eq_getElem h]
  simp [hf, ix, h]
theorem rowAt_at (f : A → Row) (l : List A) (i : Int) (h0 : 0 ≤ i) (h1 : i < l.length) : rowAt (l.map f) i = some (f (ix l i)) := by
  have h : i.toNat < l.length := by omega
  unfold rowAt
  rw [if_pos h0, List.getElem?_map, List.getElem?_eq_getElem h]
  simp [ix, h]
end
theorem setR_map {A : Type} (f : A → Row) (l : List A) (i : Int) (x : A) : setR (l.map f) i (f x) = (l.set i.toNat x).map f := by unfold setR; rw [List.map_set]
theorem subR_map {A : Type} (f : A → Row) (l : List A) (a b : Int) : subR (l.map f) a b = ((l.take b.toNat).drop a.toNat).map f := by unfold subR; rw [List.map_drop, List.map_take]
theorem repR_map {A : Type} (f : A → Row) (n : Int) (x : A) : repR n (f x) = (List.replicate n.toNat x).map f := by unfold repR; rw [List.map_replicate]
/-! rows of the program's data -/
def rS (s : S) : Row := [.str (bs s)]
def rI (n : Int) : Row := [.int .i64 n]
def rU (b : UInt8) : Row := [.int .u8 b.toNat]
def rO (o : Own) : Row := [.int .i64 o.node, .str (bs o.sec)]
def rB (b : Box) : Row := [.str (bs b.key), .str (bs b.sec)]
def rM (m : Member) : Row := [.bool m.inn, .int .i64 m.who, .sl (m.keys.map rS), .sl (m.own.map rO), .int .i64 m.epoch, .str (bs m.init), .str (bs m.tag)]
def rC (c : Commit) : Row := [.int .i64 c.sender, .str (bs c.tag), .str (bs c.name), .int .i64 c.add, .int .i64 c.remove, .str (bs c.leaf), .sl (c.keys.map rS), .sl (c.boxes.map rB), .str (bs c.wkey), .str (bs c.wik), .str (bs c.wis), .str (bs c.wsk), .str (bs c.wss)]
def rF (f : Frame) : Row := [.int .i64 f.src, .str (bs f.key), .int .i64 f.n, .str (bs f.text)]
def rW (w : Win) : Row := [.str (bs w.key), .int .i64 w.top, .sl (w.seen.map rI)]
def rWs (l : List Win) : Row := [.sl (l.map rW)]
def rWt (x : Wait) : Row := [.int .i64 x.who, .int .i64 x.pos, .str (bs x.leaf), .str (bs x.key)]
def rSt (x : Steal) : Row := [.int .i64 x.who, .str (bs x.tag)]
def rT (x : Told) : Row := [.int .i64 x.who, .int .i64 x.pos]
def rE (e : Event) : Row := [.int .i64 e.kind, .int .i64 e.who, .int .i64 e.add, .int .i64 e.remove, .int .i64 e.pos, .str (bs e.text)]
section
variable (i : Int)
theorem rowZ_S (l : List S) (h0 : 0 ≤ i) (h1 : i < l.length) : rowZ 1 (l.map rS) i = some (rS (ix l i)) := rowZ_at rS (fun _ => rfl) l i h0 h1
theorem rowZ_I (l : List Int) (h0 : 0 ≤ i) (h1 : i < l.length) : rowZ 1 (l.map rI) i = some (rI (ix l i)) := rowZ_at rI (fun _ => rfl) l i h0 h1
theorem rowZ_U (l : List UInt8) (h0 : 0 ≤ i) (h1 : i < l.length) : rowZ 1 (l.map rU) i = some (rU (ix l i)) := rowZ_at rU (fun _ => rfl) l i h0 h1
theorem rowZ_O (l : List Own) (h0 : 0 ≤ i) (h1 : i < l.length) : rowZ 2 (l.map rO) i = some (rO (ix l i)) := rowZ_at rO (fun _ => rfl) l i h0 h1
theorem rowZ_B (l : List Box) (h0 : 0 ≤ i) (h1 : i < l.length) : rowZ 2 (l.map rB) i = some (rB (ix l i)) := rowZ_at rB (fun _ => rfl) l i h0 h1
theorem rowZ_M (l : List Member) (h0 : 0 ≤ i) (h1 : i < l.length) : rowZ 7 (l.map rM) i = some (rM (ix l i)) := rowZ_at rM (fun _ => rfl) l i h0 h1
theorem rowZ_C (l : List Commit) (h0 : 0 ≤ i) (h1 : i < l.length) : rowZ 13 (l.map rC) i = some (rC (ix l i)) := rowZ_at rC (fun _ => rfl) l i h0 h1
theorem rowZ_F (l : List Frame) (h0 : 0 ≤ i) (h1 : i < l.length) : rowZ 4 (l.map rF) i = some (rF (ix l i)) := rowZ_at rF (fun _ => rfl) l i h0 h1
theorem rowZ_W (l : List Win) (h0 : 0 ≤ i) (h1 : i < l.length) : rowZ 3 (l.map rW) i = some (rW (ix l i)) := rowZ_at rW (fun _ => rfl) l i h0 h1
theorem rowZ_Ws (l : List (List Win)) (h0 : 0 ≤ i) (h1 : i < l.length) : rowZ 1 (l.map rWs) i = some (rWs (ix l i)) := rowZ_at rWs (fun _ => rfl) l i h0 h1
theorem rowZ_Wt (l : List Wait) (h0 : 0 ≤ i) (h1 : i < l.length) : rowZ 4 (l.map rWt) i = some (rWt (ix l i)) := rowZ_at rWt (fun _ => rfl) l i h0 h1
theorem rowZ_St (l : List Steal) (h0 : 0 ≤ i) (h1 : i < l.length) : rowZ 2 (l.map rSt) i = some (rSt (ix l i)) := rowZ_at rSt (fun _ => rfl) l i h0 h1
theorem rowZ_T (l : List Told) (h0 : 0 ≤ i) (h1 : i < l.length) : rowZ 2 (l.map rT) i = some (rT (ix l i)) := rowZ_at rT (fun _ => rfl) l i h0 h1
theorem rowZ_E (l : List Event) (h0 : 0 ≤ i) (h1 : i < l.length) : rowZ 6 (l.map rE) i = some (rE (ix l i)) := rowZ_at rE (fun _ => rfl) l i h0 h1
end
section
theorem okR_S (l : List S) : okR 1 (l.map rS) = true := okR_map rS 1 (fun _ => rfl) l
theorem okR_I (l : List Int) : okR 1 (l.map rI) = true := okR_map rI 1 (fun _ => rfl) l
theorem okR_U (l : List UInt8) : okR 1 (l.map rU) = true := okR_map rU 1 (fun _ => rfl) l
theorem okR_O (l : List Own) : okR 2 (l.map rO) = true := okR_map rO 2 (fun _ => rfl) l
theorem okR_B (l : List Box) : okR 2 (l.map rB) = true := okR_map rB 2 (fun _ => rfl) l
theorem okR_M (l : List Member) : okR 7 (l.map rM) = true := okR_map rM 7 (fun _ => rfl) l
theorem okR_C (l : List Commit) : okR 13 (l.map rC) = true := okR_map rC 13 (fun _ => rfl) l
theorem okR_F (l : List Frame) : okR 4 (l.map rF) = true := okR_map rF 4 (fun _ => rfl) l
theorem okR_W (l : List Win) : okR 3 (l.map rW) = true := okR_map rW 3 (fun _ => rfl) l
theorem okR_Ws (l : List (List Win)) : okR 1 (l.map rWs) = true := okR_map rWs 1 (fun _ => rfl) l
theorem okR_Wt (l : List Wait) : okR 4 (l.map rWt) = true := okR_map rWt 4 (fun _ => rfl) l
theorem okR_St (l : List Steal) : okR 2 (l.map rSt) = true := okR_map rSt 2 (fun _ => rfl) l
theorem okR_T (l : List Told) : okR 2 (l.map rT) = true := okR_map rT 2 (fun _ => rfl) l
theorem okR_E (l : List Event) : okR 6 (l.map rE) = true := okR_map rE 6 (fun _ => rfl) l
theorem okR_cons (sz : Nat) (r : Row) (l : List Row) : okR sz (r :: l) = (r.length == sz && okR sz l) := (rfl)
theorem okR_nil (sz : Nat) : okR sz [] = true := (rfl)
theorem nrows_cons (r : Row) (l : List Row) : nrows (r :: l) = nrows l + 1 := by simp [nrows]
end
theorem iAdd_n1 (a : Nat) (h : a < 9223372036854775807) : iAdd .i64 (a : Int) 1 = ((a + 1 : Nat) : Int) := by rw [iAdd_ok] <;> omega
theorem List.set_toNat_cast {A : Type} (l : List A) (k : Nat) (x : A) : l.set (k : Int).toNat x = l.set k x := by simp
end Kw
namespace Kw
set_option linter.unusedVariables false
set_option linter.unusedSimpArgs false
set_option linter.unusedSectionVars false
open Go
theorem bNot_bNot (b : Bool) : bNot (bNot b) = b := by cases b <;> rfl
theorem br_bNot {R : Type} (b : Bool) (x y : Option R) : br (bNot b) x y = br b y x := by cases b <;> rfl
theorem len_rS (x : S) : (rS x).length = 1 := (rfl)
theorem len_rI (x : Int) : (rI x).length = 1 := (rfl)
theorem len_rU (x : UInt8) : (rU x).length = 1 := (rfl)
theorem len_rO (x : Own) : (rO x).length = 2 := (rfl)
theorem len_rB (x : Box) : (rB x).length = 2 := (rfl)
theorem len_rM (x : Member) : (rM x).length = 7 := (rfl)
theorem len_rC (x : Commit) : (rC x).length = 13 := (rfl)
theorem len_rF (x : Frame) : (rF x).length = 4 := (rfl)
theorem len_rW (x : Win) : (rW x).length = 3 := (rfl)
theorem len_rWs (x : List Win) : (rWs x).length = 1 := (rfl)
theorem len_rWt (x : Wait) : (rWt x).length = 4 := (rfl)
theorem len_rSt (x : Steal) : (rSt x).length = 2 := (rfl)
theorem len_rT (x : Told) : (rT x).length = 2 := (rfl)
theorem len_rE (x : Event) : (rE x).length = 6 := (rfl)
theorem dec_selfI (a : Int) : decide (a = a) = true := decide_eq_true rfl
theorem dec_selfS (a : S) : decide (a = a) = true := decide_eq_true rfl
theorem iEq_self (a : Int) : iEq a a = true := by simp
abbrev bigL : Nat := 1099511627776
theorem gTupN_if (n : Nat) (l : List MV) : gTupN n (.tup l) = if l.length = n then some l else none := (rfl)
theorem gAggN_if (n : Nat) (l : List MV) : gAggN n (.agg l) = if l.length = n then some l else none := (rfl)
theorem gCellsN_if (n : Nat) (l : List MV) : gCellsN n (.cells l) = if l.length = n then some l else none := (rfl)
theorem fits_true (n m : Int) (k : Nat) (h : (n + m) * k ≤ 70368744177664) : fits n m k = true := by rw [fits_dec]; exact decide_eq_true h
theorem iAdd_w {a b : Int} (h1 : -9223372036854775808 ≤ a + b) (h2 : a + b ≤ 9223372036854775807) : iAdd .i64 a b = a + b := wrap_i64 h1 h2
theorem iSub_w {a b : Int} (h1 : -9223372036854775808 ≤ a - b) (h2 : a - b ≤ 9223372036854775807) : iSub .i64 a b = a - b := wrap_i64 h1 h2
theorem iMul_w {a b : Int} (h1 : -9223372036854775808 ≤ a * b) (h2 : a * b ≤ 9223372036854775807) : iMul .i64 a b = a * b := wrap_i64 h1 h2
theorem iWrap_w {a : Int} (h1 : -9223372036854775808 ≤ a) (h2 : a ≤ 9223372036854775807) : iWrap .i64 a = a := wrap_i64 h1 h2
theorem iWrap_u {a : Int} (h1 : 0 ≤ a) (h2 : a ≤ 255) : iWrap .u8 a = a := wrap_u8 h1 h2
theorem iSub_u {a b : Int} (h1 : 0 ≤ a - b) (h2 : a - b ≤ 255) : iSub .u8 a b = a - b := wrap_u8 h1 h2
theorem iRem_pos {a b : Int} (h : 0 ≤ a) : iRem a b = a % b := Int.tmod_eq_emod_of_nonneg h
theorem iQuo_pos {a b : Int} (h : 0 ≤ a) (hb : 0 < b) (hh : a ≤ 9223372036854775807) : iQuo .i64 a b = a / b := by
  unfold iQuo
  rw [Int.tdiv_eq_ediv_of_nonneg h]
  have h1 : 0 ≤ a / b := Int.ediv_nonneg h (Int.le_of_lt hb)
  have h2 : a / b ≤ a := Int.ediv_le_self b h
  rw [wrap_i64] <;> omega
theorem sAt_ok (l : S) (i : Int) (h0 : 0 ≤ i) (h1 : i < l.length) : sAt (bs l) i = some ((ix l i).toNat : Int) := by
  rw [sAt_bs l i h0]
  have h : i.toNat < l.length := by omega
  rw [List.getElem?_eq_getElem h]
  simp [ix, h]
theorem sSub_ok (l : S) (a b : Int) : sSub (bs l) a b = bs ((l.take b.toNat).drop a.toNat) := sSub_bs l a b
theorem toNat_lt (b : UInt8) : (b.toNat : Int) ≤ 255 := by have := b.toNat_lt; omega
end Kw
namespace Kw
set_option linter.unusedVariables false
set_option linter.unusedSimpArgs false
set_option linter.unusedSectionVars false
open Go
theorem c_S0 (x : S) : cellAt (rS x) 0 = .str (bs x) := (rfl)
theorem setRow_S (o : S) (x : S) : setRow (rS o) 0 [.str (bs x)] = rS x := (rfl)
theorem rowLen_S (x : S) : rowLen (rS x) = 1 := (rfl)
theorem cat1_S (l : List (S)) (x : S) : catR (l.map rS) [[.str (bs x)]] = (l ++ [x]).map rS := catR_snoc rS l x
theorem mk1_S (x : S) : [[.str (bs x)]] = [x].map rS := (rfl)
theorem rowAt_S (l : List (S)) (i : Int) (h0 : 0 ≤ i) (h1 : i < l.length) : rowAt (l.map rS) i = some (rS (ix l i)) := rowAt_at rS l i h0 h1
theorem set_S (l : List (S)) (i : Int) (x : S) : setR (l.map rS) i (rS x) = (l.set i.toNat x).map rS := setR_map rS l i x
theorem sub_S (l : List (S)) (a b : Int) : subR (l.map rS) a b = ((l.take b.toNat).drop a.toNat).map rS := subR_map rS l a b
theorem c_I0 (x : Int) : cellAt (rI x) 0 = .int .i64 x := (rfl)
theorem setRow_I (o : Int) (x : Int) : setRow (rI o) 0 [.int .i64 x] = rI x := (rfl)
theorem rowLen_I (x : Int) : rowLen (rI x) = 1 := (rfl)
theorem cat1_I (l : List (Int)) (x : Int) : catR (l.map rI) [[.int .i64 x]] = (l ++ [x]).map rI := catR_snoc rI l x
theorem mk1_I (x : Int) : [[.int .i64 x]] = [x].map rI := (rfl)
theorem rowAt_I (l : List (Int)) (i : Int) (h0 : 0 ≤ i) (h1 : i < l.length) : rowAt (l.map rI) i = some (rI (ix l i)) := rowAt_at rI l i h0 h1
theorem set_I (l : List (Int)) (i : Int) (x : Int) : setR (l.map rI) i (rI x) = (l.set i.toNat x).map rI := setR_map rI l i x
theorem sub_I (l : List (Int)) (a b : Int) : subR (l.map rI) a b = ((l.take b.toNat).drop a.toNat).map rI := subR_map rI l a b
theorem c_U0 (x : UInt8) : cellAt (rU x) 0 = .int .u8 (UInt8.toNat x : Nat) := (rfl)
theorem setRow_U (o : UInt8) (x : UInt8) : setRow (rU o) 0 [.int .u8 (UInt8.toNat x : Nat)] = rU x := (rfl)
theorem rowLen_U (x : UInt8) : rowLen (rU x) = 1 := (rfl)
theorem cat1_U (l : List (UInt8)) (x : UInt8) : catR (l.map rU) [[.int .u8 (UInt8.toNat x : Nat)]] = (l ++ [x]).map rU := catR_snoc rU l x
theorem mk1_U (x : UInt8) : [[.int .u8 (UInt8.toNat x : Nat)]] = [x].map rU := (rfl)
theorem rowAt_U (l : List (UInt8)) (i : Int) (h0 : 0 ≤ i) (h1 : i < l.length) : rowAt (l.map rU) i = some (rU (ix l i)) := rowAt_at rU l i h0 h1
theorem set_U (l : List (UInt8)) (i : Int) (x : UInt8) : setR (l.map rU) i (rU x) = (l.set i.toNat x).map rU := setR_map rU l i x
theorem sub_U (l : List (UInt8)) (a b : Int) : subR (l.map rU) a b = ((l.take b.toNat).drop a.toNat).map rU := subR_map rU l a b
theorem c_O0 (x : Own) : cellAt (rO x) 0 = .int .i64 x.node := (rfl)
theorem c_O1 (x : Own) : cellAt (rO x) 1 = .str (bs x.sec) := (rfl)
theorem setRow_O (o : Own) (a0 : Int) (a1 : S) : setRow (rO o) 0 [.int .i64 a0, .str (bs a1)] = rO (⟨a0, a1⟩ : Own) := (rfl)
theorem rowLen_O (x : Own) : rowLen (rO x) = 2 := (rfl)
theorem cat1_O (l : List (Own)) (a0 : Int) (a1 : S) : catR (l.map rO) [[.int .i64 a0, .str (bs a1)]] = (l ++ [(⟨a0, a1⟩ : Own)]).map rO := catR_snoc rO l (⟨a0, a1⟩ : Own)
theorem mk1_O (a0 : Int) (a1 : S) : [[.int .i64 a0, .str (bs a1)]] = [(⟨a0, a1⟩ : Own)].map rO := (rfl)
theorem rowAt_O (l : List (Own)) (i : Int) (h0 : 0 ≤ i) (h1 : i < l.length) : rowAt (l.map rO) i = some (rO (ix l i)) := rowAt_at rO l i h0 h1
theorem set_O (l : List (Own)) (i : Int) (x : Own) : setR (l.map rO) i (rO x) = (l.set i.toNat x).map rO := setR_map rO l i x
theorem sub_O (l : List (Own)) (a b : Int) : subR (l.map rO) a b = ((l.take b.toNat).drop a.toNat).map rO := subR_map rO l a b
theorem c_B0 (x : Box) : cellAt (rB x) 0 = .str (bs x.key) := (rfl)
theorem c_B1 (x : Box) : cellAt (rB x) 1 = .str (bs x.sec) := (rfl)
theorem setRow_B (o : Box) (a0 : S) (a1 : S) : setRow (rB o) 0 [.str (bs a0), .str (bs a1)] = rB (⟨a0, a1⟩ : Box) := (rfl)
theorem rowLen_B (x : Box) : rowLen (rB x) = 2 := (rfl)
theorem cat1_B (l : List (Box)) (a0 : S) (a1 : S) : catR (l.map rB) [[.str (bs a0), .str (bs a1)]] = (l ++ [(⟨a0, a1⟩ : Box)]).map rB := catR_snoc rB l (⟨a0, a1⟩ : Box)
theorem mk1_B (a0 : S) (a1 : S) : [[.str (bs a0), .str (bs a1)]] = [(⟨a0, a1⟩ : Box)].map rB := (rfl)
theorem rowAt_B (l : List (Box)) (i : Int) (h0 : 0 ≤ i) (h1 : i < l.length) : rowAt (l.map rB) i = some (rB (ix l i)) := rowAt_at rB l i h0 h1
theorem set_B (l : List (Box)) (i : Int) (x : Box) : setR (l.map rB) i (rB x) = (l.set i.toNat x).map rB := setR_map rB l i x
theorem sub_B (l : List (Box)) (a b : Int) : subR (l.map rB) a b = ((l.take b.toNat).drop a.toNat).map rB := subR_map rB l a b
theorem c_M0 (x : Member) : cellAt (rM x) 0 = .bool x.inn := (rfl)
theorem c_M1 (x : Member) : cellAt (rM x) 1 = .int .i64 x.who := (rfl)
theorem c_M2 (x : Member) : cellAt (rM x) 2 = .sl (x.keys.map rS) := (rfl)
theorem c_M3 (x : Member) : cellAt (rM x) 3 = .sl (x.own.map rO) := (rfl)
theorem c_M4 (x : Member) : cellAt (rM x) 4 = .int .i64 x.epoch := (rfl)
theorem c_M5 (x : Member) : cellAt (rM x) 5 = .str (bs x.init) := (rfl)
theorem c_M6 (x : Member) : cellAt (rM x) 6 = .str (bs x.tag) := (rfl)
theorem setRow_M (o : Member) (a0 : Bool) (a1 : Int) (a2 : List S) (a3 : List Own) (a4 : Int) (a5 : S) (a6 : S) : setRow (rM o) 0 [.bool a0, .int .i64 a1, .sl (a2.map rS), .sl (a3.map rO), .int .i64 a4, .str (bs a5), .str (bs a6)] = rM (⟨a0, a1, a2, a3, a4, a5, a6⟩ : Member) := (rfl)
theorem rowLen_M (x : Member) : rowLen (rM x) = 7 := (rfl)
theorem cat1_M (l : List (Member)) (a0 : Bool) (a1 : Int) (a2 : List S) (a3 : List Own) (a4 : Int) (a5 : S) (a6 : S) : catR (l.map rM) [[.bool a0, .int .i64 a1, .sl (a2.map rS), .sl (a3.map rO), .int .i64 a4, .str (bs a5), .str (bs a6)]] = (l ++ [(⟨a0, a1, a2, a3, a4, a5, a6⟩ : Member)]).map rM := catR_snoc rM l (⟨a0, a1, a2, a3, a4, a5, a6⟩ : Member)
theorem mk1_M (a0 : Bool) (a1 : Int) (a2 : List S) (a3 : List Own) (a4 : Int) (a5 : S) (a6 : S) : [[.bool a0, .int .i64 a1, .sl (a2.map rS), .sl (a3.map rO), .int .i64 a4, .str (bs a5), .str (bs a6)]] = [(⟨a0, a1, a2, a3, a4, a5, a6⟩ : Member)].map rM := (rfl)
theorem rowAt_M (l : List (Member)) (i : Int) (h0 : 0 ≤ i) (h1 : i < l.length) : rowAt (l.map rM) i = some (rM (ix l i)) := rowAt_at rM l i h0 h1
theorem set_M (l : List (Member)) (i : Int) (x : Member) : setR (l.map rM) i (rM x) = (l.set i.toNat x).map rM := setR_map rM l i x
theorem sub_M (l : List (Member)) (a b : Int) : subR (l.map rM) a b = ((l.take b.toNat).drop a.toNat).map rM := subR_map rM l a b
theorem c_C0 (x : Commit) : cellAt (rC x) 0 = .int .i64 x.sender := (rfl)
theorem c_C1 (x : Commit) : cellAt (rC x) 1 = .str (bs x.tag) := (rfl)
theorem c_C2 (x : Commit) : cellAt (rC x) 2 = .str (bs x.name) := (rfl)
theorem c_C3 (x : Commit) : cellAt (rC x) 3 = .int .i64 x.add := (rfl)
theorem c_C4 (x : Commit) : cellAt (rC x) 4 = .int .i64 x.remove := (rfl)
theorem c_C5 (x : Commit) : cellAt (rC x) 5 = .str (bs x.leaf) := (rfl)
theorem c_C6 (x : Commit) : cellAt (rC x) 6 = .sl (x.keys.map rS) := (rfl)
theorem c_C7 (x : Commit) : cellAt (rC x) 7 = .sl (x.boxes.map rB) := (rfl)
theorem c_C8 (x : Commit) : cellAt (rC x) 8 = .str (bs x.wkey) := (rfl)
theorem c_C9 (x : Commit) : cellAt (rC x) 9 = .str (bs x.wik) := (rfl)
theorem c_C10 (x : Commit) : cellAt (rC x) 10 = .str (bs x.wis) := (rfl)
theorem c_C11 (x : Commit) : cellAt (rC x) 11 = .str (bs x.wsk) := (rfl)
theorem c_C12 (x : Commit) : cellAt (rC x) 12 = .str (bs x.wss) := (rfl)
theorem setRow_C (o : Commit) (a0 : Int) (a1 : S) (a2 : S) (a3 : Int) (a4 : Int) (a5 : S) (a6 : List S) (a7 : List Box) (a8 : S) (a9 : S) (a10 : S) (a11 : S) (a12 : S) : setRow (rC o) 0 [.int .i64 a0, .str (bs a1), .str (bs a2), .int .i64 a3, .int .i64 a4, .str (bs a5), .sl (a6.map rS), .sl (a7.map rB), .str (bs a8), .str (bs a9), .str (bs a10), .str (bs a11), .str (bs a12)] = rC (⟨a0, a1, a2, a3, a4, a5, a6, a7, a8, a9, a10, a11, a12⟩ : Commit) := (rfl)
theorem rowLen_C (x : Commit) : rowLen (rC x) = 13 := (rfl)
theorem cat1_C (l : List (Commit)) (a0 : Int) (a1 : S) (a2 : S) (a3 : Int) (a4 : Int) (a5 : S) (a6 : List S) (a7 : List Box) (a8 : S) (a9 : S) (a10 : S) (a11 : S) (a12 : S) : catR (l.map rC) [[.int .i64 a0, .str (bs a1), .str (bs a2), .int .i64 a3, .int .i64 a4, .str (bs a5), .sl (a6.map rS), .sl (a7.map rB), .str (bs a8), .str (bs a9), .str (bs a10), .str (bs a11), .str (bs a12)]] = (l ++ [(⟨a0, a1, a2, a3, a4, a5, a6, a7, a8, a9, a10, a11, a12⟩ : Commit)]).map rC := catR_snoc rC l (⟨a0, a1, a2, a3, a4, a5, a6, a7, a8, a9, a10, a11, a12⟩ : Commit)
theorem mk1_C (a0 : Int) (a1 : S) (a2 : S) (a3 : Int) (a4 : Int) (a5 : S) (a6 : List S) (a7 : List Box) (a8 : S) (a9 : S) (a10 : S) (a11 : S) (a12 : S) : [[.int .i64 a0, .str (bs a1), .str (bs a2), .int .i64 a3, .int .i64 a4, .str (bs a5), .sl (a6.map rS), .sl (a7.map rB), .str (bs a8), .str (bs a9), .str (bs a10), .str (bs a11), .str (bs a12)]] = [(⟨a0, a1, a2, a3, a4, a5, a6, a7, a8, a9, a10, a11, a12⟩ : Commit)].map rC := (rfl)
theorem rowAt_C (l : List (Commit)) (i : Int) (h0 : 0 ≤ i) (h1 : i < l.length) : rowAt (l.map rC) i = some (rC (ix l i)) := rowAt_at rC l i h0 h1
theorem set_C (l : List (Commit)) (i : Int) (x : Commit) : setR (l.map rC) i (rC x) = (l.set i.toNat x).map rC := setR_map rC l i x
theorem sub_C (l : List (Commit)) (a b : Int) : subR (l.map rC) a b = ((l.take b.toNat).drop a.toNat).map rC := subR_map rC l a b
theorem c_F0 (x : Frame) : cellAt (rF x) 0 = .int .i64 x.src := (rfl)
theorem c_F1 (x : Frame) : cellAt (rF x) 1 = .str (bs x.key) := (rfl)
theorem c_F2 (x : Frame) : cellAt (rF x) 2 = .int .i64 x.n := (rfl)
theorem c_F3 (x : Frame) : cellAt (rF x) 3 = .str (bs x.text) := (rfl)
theorem setRow_F (o : Frame) (a0 : Int) (a1 : S) (a2 : Int) (a3 : S) : setRow (rF o) 0 [.int .i64 a0, .str (bs a1), .int .i64 a2, .str (bs a3)] = rF (⟨a0, a1, a2, a3⟩ : Frame) := (rfl)
theorem rowLen_F (x : Frame) : rowLen (rF x) = 4 := (rfl)
theorem cat1_F (l : List (Frame)) (a0 : Int) (a1 : S) (a2 : Int) (a3 : S) : catR (l.map rF) [[.int .i64 a0, .str (bs a1), .int .i64 a2, .str (bs a3)]] = (l ++ [(⟨a0, a1, a2, a3⟩ : Frame)]).map rF := catR_snoc rF l (⟨a0, a1, a2, a3⟩ : Frame)
theorem mk1_F (a0 : Int) (a1 : S) (a2 : Int) (a3 : S) : [[.int .i64 a0, .str (bs a1), .int .i64 a2, .str (bs a3)]] = [(⟨a0, a1, a2, a3⟩ : Frame)].map rF := (rfl)
theorem rowAt_F (l : List (Frame)) (i : Int) (h0 : 0 ≤ i) (h1 : i < l.length) : rowAt (l.map rF) i = some (rF (ix l i)) := rowAt_at rF l i h0 h1
theorem set_F (l : List (Frame)) (i : Int) (x : Frame) : setR (l.map rF) i (rF x) = (l.set i.toNat x).map rF := setR_map rF l i x
theorem sub_F (l : List (Frame)) (a b : Int) : subR (l.map rF) a b = ((l.take b.toNat).drop a.toNat).map rF := subR_map rF l a b
theorem c_W0 (x : Win) : cellAt (rW x) 0 = .str (bs x.key) := (rfl)
theorem c_W1 (x : Win) : cellAt (rW x) 1 = .int .i64 x.top := (rfl)
theorem c_W2 (x : Win) : cellAt (rW x) 2 = .sl (x.seen.map rI) := (rfl)
theorem setRow_W (o : Win) (a0 : S) (a1 : Int) (a2 : List Int) : setRow (rW o) 0 [.str (bs a0), .int .i64 a1, .sl (a2.map rI)] = rW (⟨a0, a1, a2⟩ : Win) := (rfl)
theorem rowLen_W (x : Win) : rowLen (rW x) = 3 := (rfl)
theorem cat1_W (l : List (Win)) (a0 : S) (a1 : Int) (a2 : List Int) : catR (l.map rW) [[.str (bs a0), .int .i64 a1, .sl (a2.map rI)]] = (l ++ [(⟨a0, a1, a2⟩ : Win)]).map rW := catR_snoc rW l (⟨a0, a1, a2⟩ : Win)
theorem mk1_W (a0 : S) (a1 : Int) (a2 : List Int) : [[.str (bs a0), .int .i64 a1, .sl (a2.map rI)]] = [(⟨a0, a1, a2⟩ : Win)].map rW := (rfl)
theorem rowAt_W (l : List (Win)) (i : Int) (h0 : 0 ≤ i) (h1 : i < l.length) : rowAt (l.map rW) i = some (rW (ix l i)) := rowAt_at rW l i h0 h1
theorem set_W (l : List (Win)) (i : Int) (x : Win) : setR (l.map rW) i (rW x) = (l.set i.toNat x).map rW := setR_map rW l i x
theorem sub_W (l : List (Win)) (a b : Int) : subR (l.map rW) a b = ((l.take b.toNat).drop a.toNat).map rW := subR_map rW l a b
theorem c_Ws0 (x : List Win) : cellAt (rWs x) 0 = .sl (x.map rW) := (rfl)
theorem setRow_Ws (o : List Win) (x : List Win) : setRow (rWs o) 0 [.sl (x.map rW)] = rWs x := (rfl)
theorem rowLen_Ws (x : List Win) : rowLen (rWs x) = 1 := (rfl)
theorem cat1_Ws (l : List (List Win)) (x : List Win) : catR (l.map rWs) [[.sl (x.map rW)]] = (l ++ [x]).map rWs := catR_snoc rWs l x
theorem mk1_Ws (x : List Win) : [[.sl (x.map rW)]] = [x].map rWs := (rfl)
theorem rowAt_Ws (l : List (List Win)) (i : Int) (h0 : 0 ≤ i) (h1 : i < l.length) : rowAt (l.map rWs) i = some (rWs (ix l i)) := rowAt_at rWs l i h0 h1
theorem set_Ws (l : List (List Win)) (i : Int) (x : List Win) : setR (l.map rWs) i (rWs x) = (l.set i.toNat x).map rWs := setR_map rWs l i x
theorem sub_Ws (l : List (List Win)) (a b : Int) : subR (l.map rWs) a b = ((l.take b.toNat).drop a.toNat).map rWs := subR_map rWs l a b
theorem c_Wt0 (x : Wait) : cellAt (rWt x) 0 = .int .i64 x.who := (rfl)
theorem c_Wt1 (x : Wait) : cellAt (rWt x) 1 = .int .i64 x.pos := (rfl)
theorem c_Wt2 (x : Wait) : cellAt (rWt x) 2 = .str (bs x.leaf) := (rfl)
theorem c_Wt3 (x : Wait) : cellAt (rWt x) 3 = .str (bs x.key) := (rfl)
theorem setRow_Wt (o : Wait) (a0 : Int) (a1 : Int) (a2 : S) (a3 : S) : setRow (rWt o) 0 [.int .i64 a0, .int .i64 a1, .str (bs a2), .str (bs a3)] = rWt (⟨a0, a1, a2, a3⟩ : Wait) := (rfl)
theorem rowLen_Wt (x : Wait) : rowLen (rWt x) = 4 := (rfl)
theorem cat1_Wt (l : List (Wait)) (a0 : Int) (a1 : Int) (a2 : S) (a3 : S) : catR (l.map rWt) [[.int .i64 a0, .int .i64 a1, .str (bs a2), .str (bs a3)]] = (l ++ [(⟨a0, a1, a2, a3⟩ : Wait)]).map rWt := catR_snoc rWt l (⟨a0, a1, a2, a3⟩ : Wait)
theorem mk1_Wt (a0 : Int) (a1 : Int) (a2 : S) (a3 : S) : [[.int .i64 a0, .int .i64 a1, .str (bs a2), .str (bs a3)]] = [(⟨a0, a1, a2, a3⟩ : Wait)].map rWt := (rfl)
theorem rowAt_Wt (l : List (Wait)) (i : Int) (h0 : 0 ≤ i) (h1 : i < l.length) : rowAt (l.map rWt) i = some (rWt (ix l i)) := rowAt_at rWt l i h0 h1
theorem set_Wt (l : List (Wait)) (i : Int) (x : Wait) : setR (l.map rWt) i (rWt x) = (l.set i.toNat x).map rWt := setR_map rWt l i x
theorem sub_Wt (l : List (Wait)) (a b : Int) : subR (l.map rWt) a b = ((l.take b.toNat).drop a.toNat).map rWt := subR_map rWt l a b
theorem c_St0 (x : Steal) : cellAt (rSt x) 0 = .int .i64 x.who := (rfl)
theorem c_St1 (x : Steal) : cellAt (rSt x) 1 = .str (bs x.tag) := (rfl)
theorem setRow_St (o : Steal) (a0 : Int) (a1 : S) : setRow (rSt o) 0 [.int .i64 a0, .str (bs a1)] = rSt (⟨a0, a1⟩ : Steal) := (rfl)
theorem rowLen_St (x : Steal) : rowLen (rSt x) = 2 := (rfl)
theorem cat1_St (l : List (Steal)) (a0 : Int) (a1 : S) : catR (l.map rSt) [[.int .i64 a0, .str (bs a1)]] = (l ++ [(⟨a0, a1⟩ : Steal)]).map rSt := catR_snoc rSt l (⟨a0, a1⟩ : Steal)
theorem mk1_St (a0 : Int) (a1 : S) : [[.int .i64 a0, .str (bs a1)]] = [(⟨a0, a1⟩ : Steal)].map rSt := (rfl)
theorem rowAt_St (l : List (Steal)) (i : Int) (h0 : 0 ≤ i) (h1 : i < l.length) : rowAt (l.map rSt) i = some (rSt (ix l i)) := rowAt_at rSt l i h0 h1
theorem set_St (l : List (Steal)) (i : Int) (x : Steal) : setR (l.map rSt) i (rSt x) = (l.set i.toNat x).map rSt := setR_map rSt l i x
theorem sub_St (l : List (Steal)) (a b : Int) : subR (l.map rSt) a b = ((l.take b.toNat).drop a.toNat).map rSt := subR_map rSt l a b
theorem c_T0 (x : Told) : cellAt (rT x) 0 = .int .i64 x.who := (rfl)
theorem c_T1 (x : Told) : cellAt (rT x) 1 = .int .i64 x.pos := (rfl)
theorem setRow_T (o : Told) (a0 : Int) (a1 : Int) : setRow (rT o) 0 [.int .i64 a0, .int .i64 a1] = rT (⟨a0, a1⟩ : Told) := (rfl)
theorem rowLen_T (x : Told) : rowLen (rT x) = 2 := (rfl)
theorem cat1_T (l : List (Told)) (a0 : Int) (a1 : Int) : catR (l.map rT) [[.int .i64 a0, .int .i64 a1]] = (l ++ [(⟨a0, a1⟩ : Told)]).map rT := catR_snoc rT l (⟨a0, a1⟩ : Told)
theorem mk1_T (a0 : Int) (a1 : Int) : [[.int .i64 a0, .int .i64 a1]] = [(⟨a0, a1⟩ : Told)].map rT := (rfl)
theorem rowAt_T (l : List (Told)) (i : Int) (h0 : 0 ≤ i) (h1 : i < l.length) : rowAt (l.map rT) i = some (rT (ix l i)) := rowAt_at rT l i h0 h1
theorem set_T (l : List (Told)) (i : Int) (x : Told) : setR (l.map rT) i (rT x) = (l.set i.toNat x).map rT := setR_map rT l i x
theorem sub_T (l : List (Told)) (a b : Int) : subR (l.map rT) a b = ((l.take b.toNat).drop a.toNat).map rT := subR_map rT l a b
theorem c_E0 (x : Event) : cellAt (rE x) 0 = .int .i64 x.kind := (rfl)
theorem c_E1 (x : Event) : cellAt (rE x) 1 = .int .i64 x.who := (rfl)
theorem c_E2 (x : Event) : cellAt (rE x) 2 = .int .i64 x.add := (rfl)
theorem c_E3 (x : Event) : cellAt (rE x) 3 = .int .i64 x.remove := (rfl)
theorem c_E4 (x : Event) : cellAt (rE x) 4 = .int .i64 x.pos := (rfl)
theorem c_E5 (x : Event) : cellAt (rE x) 5 = .str (bs x.text) := (rfl)
theorem setRow_E (o : Event) (a0 : Int) (a1 : Int) (a2 : Int) (a3 : Int) (a4 : Int) (a5 : S) : setRow (rE o) 0 [.int .i64 a0, .int .i64 a1, .int .i64 a2, .int .i64 a3, .int .i64 a4, .str (bs a5)] = rE (⟨a0, a1, a2, a3, a4, a5⟩ : Event) := (rfl)
theorem rowLen_E (x : Event) : rowLen (rE x) = 6 := (rfl)
theorem cat1_E (l : List (Event)) (a0 : Int) (a1 : Int) (a2 : Int) (a3 : Int) (a4 : Int) (a5 : S) : catR (l.map rE) [[.int .i64 a0, .int .i64 a1, .int .i64 a2, .int .i64 a3, .int .i64 a4, .str (bs a5)]] = (l ++ [(⟨a0, a1, a2, a3, a4, a5⟩ : Event)]).map rE := catR_snoc rE l (⟨a0, a1, a2, a3, a4, a5⟩ : Event)
theorem mk1_E (a0 : Int) (a1 : Int) (a2 : Int) (a3 : Int) (a4 : Int) (a5 : S) : [[.int .i64 a0, .int .i64 a1, .int .i64 a2, .int .i64 a3, .int .i64 a4, .str (bs a5)]] = [(⟨a0, a1, a2, a3, a4, a5⟩ : Event)].map rE := (rfl)
theorem rowAt_E (l : List (Event)) (i : Int) (h0 : 0 ≤ i) (h1 : i < l.length) : rowAt (l.map rE) i = some (rE (ix l i)) := rowAt_at rE l i h0 h1
theorem set_E (l : List (Event)) (i : Int) (x : Event) : setR (l.map rE) i (rE x) = (l.set i.toNat x).map rE := setR_map rE l i x
theorem sub_E (l : List (Event)) (a b : Int) : subR (l.map rE) a b = ((l.take b.toNat).drop a.toNat).map rE := subR_map rE l a b
theorem catR_nil (r : List Row) : catR [] r = r := (rfl)
theorem catR_nilr (r : List Row) : catR r [] = r := List.append_nil r
theorem setRow_O0 (o : Own) (v : Int) : setRow (rO o) 0 [.int .i64 v] = rO { o with node := v } := (rfl)
theorem setRow_O1 (o : Own) (v : S) : setRow (rO o) 1 [.str (bs v)] = rO { o with sec := v } := (rfl)
theorem setRow_B0 (o : Box) (v : S) : setRow (rB o) 0 [.str (bs v)] = rB { o with key := v } := (rfl)
theorem setRow_B1 (o : Box) (v : S) : setRow (rB o) 1 [.str (bs v)] = rB { o with sec := v } := (rfl)
theorem setRow_M0 (o : Member) (v : Bool) : setRow (rM o) 0 [.bool v] = rM { o with inn := v } := (rfl)
theorem setRow_M1 (o : Member) (v : Int) : setRow (rM o) 1 [.int .i64 v] = rM { o with who := v } := (rfl)
theorem setRow_M2 (o : Member) (v : List S) : setRow (rM o) 2 [.sl (v.map rS)] = rM { o with keys := v } := (rfl)
theorem setRow_M3 (o : Member) (v : List Own) : setRow (rM o) 3 [.sl (v.map rO)] = rM { o with own := v } := (rfl)
theorem setRow_M4 (o : Member) (v : Int) : setRow (rM o) 4 [.int .i64 v] = rM { o with epoch := v } := (rfl)
theorem setRow_M5 (o : Member) (v : S) : setRow (rM o) 5 [.str (bs v)] = rM { o with init := v } := (rfl)
theorem setRow_M6 (o : Member) (v : S) : setRow (rM o) 6 [.str (bs v)] = rM { o with tag := v } := (rfl)
theorem setRow_C0 (o : Commit) (v : Int) : setRow (rC o) 0 [.int .i64 v] = rC { o with sender := v } := (rfl)
theorem setRow_C1 (o : Commit) (v : S) : setRow (rC o) 1 [.str (bs v)] = rC { o with tag := v } := (rfl)
theorem setRow_C2 (o : Commit) (v : S) : setRow (rC o) 2 [.str (bs v)] = rC { o with name := v } := (rfl)
theorem setRow_C3 (o : Commit) (v : Int) : setRow (rC o) 3 [.int .i64 v] = rC { o with add := v } := (rfl)
theorem setRow_C4 (o : Commit) (v : Int) : setRow (rC o) 4 [.int .i64 v] = rC { o with remove := v } := (rfl)
theorem setRow_C5 (o : Commit) (v : S) : setRow (rC o) 5 [.str (bs v)] = rC { o with leaf := v } := (rfl)
theorem setRow_C6 (o : Commit) (v : List S) : setRow (rC o) 6 [.sl (v.map rS)] = rC { o with keys := v } := (rfl)
theorem setRow_C7 (o : Commit) (v : List Box) : setRow (rC o) 7 [.sl (v.map rB)] = rC { o with boxes := v } := (rfl)
theorem setRow_C8 (o : Commit) (v : S) : setRow (rC o) 8 [.str (bs v)] = rC { o with wkey := v } := (rfl)
theorem setRow_C9 (o : Commit) (v : S) : setRow (rC o) 9 [.str (bs v)] = rC { o with wik := v } := (rfl)
theorem setRow_C10 (o : Commit) (v : S) : setRow (rC o) 10 [.str (bs v)] = rC { o with wis := v } := (rfl)
theorem setRow_C11 (o : Commit) (v : S) : setRow (rC o) 11 [.str (bs v)] = rC { o with wsk := v } := (rfl)
theorem setRow_C12 (o : Commit) (v : S) : setRow (rC o) 12 [.str (bs v)] = rC { o with wss := v } := (rfl)
theorem setRow_F0 (o : Frame) (v : Int) : setRow (rF o) 0 [.int .i64 v] = rF { o with src := v } := (rfl)
theorem setRow_F1 (o : Frame) (v : S) : setRow (rF o) 1 [.str (bs v)] = rF { o with key := v } := (rfl)
theorem setRow_F2 (o : Frame) (v : Int) : setRow (rF o) 2 [.int .i64 v] = rF { o with n := v } := (rfl)
theorem setRow_F3 (o : Frame) (v : S) : setRow (rF o) 3 [.str (bs v)] = rF { o with text := v } := (rfl)
theorem setRow_W0 (o : Win) (v : S) : setRow (rW o) 0 [.str (bs v)] = rW { o with key := v } := (rfl)
theorem setRow_W1 (o : Win) (v : Int) : setRow (rW o) 1 [.int .i64 v] = rW { o with top := v } := (rfl)
theorem setRow_W2 (o : Win) (v : List Int) : setRow (rW o) 2 [.sl (v.map rI)] = rW { o with seen := v } := (rfl)
theorem setRow_Wt0 (o : Wait) (v : Int) : setRow (rWt o) 0 [.int .i64 v] = rWt { o with who := v } := (rfl)
theorem setRow_Wt1 (o : Wait) (v : Int) : setRow (rWt o) 1 [.int .i64 v] = rWt { o with pos := v } := (rfl)
theorem setRow_Wt2 (o : Wait) (v : S) : setRow (rWt o) 2 [.str (bs v)] = rWt { o with leaf := v } := (rfl)
theorem setRow_Wt3 (o : Wait) (v : S) : setRow (rWt o) 3 [.str (bs v)] = rWt { o with key := v } := (rfl)
theorem setRow_St0 (o : Steal) (v : Int) : setRow (rSt o) 0 [.int .i64 v] = rSt { o with who := v } := (rfl)
theorem setRow_St1 (o : Steal) (v : S) : setRow (rSt o) 1 [.str (bs v)] = rSt { o with tag := v } := (rfl)
theorem setRow_T0 (o : Told) (v : Int) : setRow (rT o) 0 [.int .i64 v] = rT { o with who := v } := (rfl)
theorem setRow_T1 (o : Told) (v : Int) : setRow (rT o) 1 [.int .i64 v] = rT { o with pos := v } := (rfl)
theorem setRow_E0 (o : Event) (v : Int) : setRow (rE o) 0 [.int .i64 v] = rE { o with kind := v } := (rfl)
theorem setRow_E1 (o : Event) (v : Int) : setRow (rE o) 1 [.int .i64 v] = rE { o with who := v } := (rfl)
theorem setRow_E2 (o : Event) (v : Int) : setRow (rE o) 2 [.int .i64 v] = rE { o with add := v } := (rfl)
theorem setRow_E3 (o : Event) (v : Int) : setRow (rE o) 3 [.int .i64 v] = rE { o with remove := v } := (rfl)
theorem setRow_E4 (o : Event) (v : Int) : setRow (rE o) 4 [.int .i64 v] = rE { o with pos := v } := (rfl)
theorem setRow_E5 (o : Event) (v : S) : setRow (rE o) 5 [.str (bs v)] = rE { o with text := v } := (rfl)
end Kw
