import Derived.Shelf.Strings.Split
import Derived.Shelf.Slices.Clone
import Derived.Test.YtphammifhilpdaaDoorProg
import Derived.Test.YtphammifhilpdaaDoorV07
import Derived.WalkKit
import Derived.Tactics
import Derived.Lib.Walk
namespace Go.Proofs
open Go.Shelf
def Tryd.lays221_ren : Go.Shelf.Ren := ⟨fun | 221 => 34 | 268 => 51 | 138 => 52 | 143 => 53 | 195 => 66 | 197 => 67 | 218 => 68 | 219 => 69 | 260 => 80 | 217 => 81 | 225 => 82 | 224 => 83 | 267 => 84 | 266 => 95 | 314 => 96 | n => n, fun | 9 => 9 | 3 => 3 | 31 => 22 | 4 => 4 | 0 => 0 | 105 => 94 | 21 => 21 | 5 => 5 | 46 => 105 | 119 => 124 | 139 => 127 | 138 => 126 | 146 => 129 | 51 => 128 | n => n, fun | 1 => 3 | 3 => 4 | 4 => 5 | n => n⟩
theorem Tryd.lays221 : Go.Proofs.Lays.n221 Tryd.prog Tryd.lays221_ren := {
  mixed := by kernel_rfl
  f138 := Tryd.func52.trans (congrArg some (by kernel_rfl))
  f143 := Tryd.func53.trans (congrArg some (by kernel_rfl))
  f195 := Tryd.func66.trans (congrArg some (by kernel_rfl))
  f197 := Tryd.func67.trans (congrArg some (by kernel_rfl))
  f217 := Tryd.func81.trans (congrArg some (by kernel_rfl))
  f218 := Tryd.func68.trans (congrArg some (by kernel_rfl))
  f219 := Tryd.func69.trans (congrArg some (by kernel_rfl))
  f221 := Tryd.func34.trans (congrArg some (by kernel_rfl))
  f224 := Tryd.func83.trans (congrArg some (by kernel_rfl))
  f225 := Tryd.func82.trans (congrArg some (by kernel_rfl))
  f260 := Tryd.func80.trans (congrArg some (by kernel_rfl))
  f266 := Tryd.func95.trans (congrArg some (by kernel_rfl))
  f267 := Tryd.func84.trans (congrArg some (by kernel_rfl))
  f268 := Tryd.func51.trans (congrArg some (by kernel_rfl))
  f314 := Tryd.func96.trans (congrArg some (by kernel_rfl))
  t0 := Tryd.underlying0
  a0 := Tryd.isAgg0
  z0 := Tryd.sizeOf0
  v0 := Tryd.zeroValue0
  t3 := Tryd.underlying3
  a3 := Tryd.isAgg3
  z3 := Tryd.sizeOf3
  v3 := Tryd.zeroValue3
  t4 := Tryd.underlying4
  a4 := Tryd.isAgg4
  z4 := Tryd.sizeOf4
  v4 := Tryd.zeroValue4
  t5 := Tryd.underlying5
  a5 := Tryd.isAgg5
  z5 := Tryd.sizeOf5
  v5 := Tryd.zeroValue5
  t9 := Tryd.underlying9
  a9 := Tryd.isAgg9
  z9 := Tryd.sizeOf9
  v9 := Tryd.zeroValue9
  t21 := Tryd.underlying21
  a21 := Tryd.isAgg21
  z21 := Tryd.sizeOf21
  v21 := Tryd.zeroValue21
  t31 := Tryd.underlying22
  a31 := Tryd.isAgg22
  z31 := Tryd.sizeOf22
  v31 := Tryd.zeroValue22
  t46 := Tryd.underlying105
  a46 := Tryd.isAgg105
  z46 := Tryd.sizeOf105
  v46 := Tryd.zeroValue105
  t51 := Tryd.underlying128
  a51 := Tryd.isAgg128
  z51 := Tryd.sizeOf128
  v51 := Tryd.zeroValue128
  t105 := Tryd.underlying94
  a105 := Tryd.isAgg94
  z105 := Tryd.sizeOf94
  v105 := Tryd.zeroValue94
  t119 := Tryd.underlying124
  a119 := Tryd.isAgg124
  z119 := Tryd.sizeOf124
  t138 := Tryd.underlying126
  a138 := Tryd.isAgg126
  z138 := Tryd.sizeOf126
  v138 := Tryd.zeroValue126
  t139 := Tryd.underlying127
  a139 := Tryd.isAgg127
  z139 := Tryd.sizeOf127
  v139 := Tryd.zeroValue127
  t146 := Tryd.underlying129
  a146 := Tryd.isAgg129
  z146 := Tryd.sizeOf129
  v146 := Tryd.zeroValue129
  g1 := by kernel_rfl
  g3 := by kernel_rfl
  g4 := by kernel_rfl }
def Tryd.laysNm216_ren : Go.Shelf.Ren := ⟨fun | 16 => 36 | n => n, fun | 24 => 22 | 9 => 9 | 4 => 4 | n => n, fun | n => n⟩
theorem Tryd.laysNm216 : Go.Proofs.Lays2.n16 Tryd.prog Tryd.laysNm216_ren := {
  mixed := by kernel_rfl
  f16 := Tryd.func36.trans (congrArg some (by kernel_rfl))
  t4 := Tryd.underlying4
  a4 := Tryd.isAgg4
  z4 := Tryd.sizeOf4
  v4 := Tryd.zeroValue4
  t9 := Tryd.underlying9
  a9 := Tryd.isAgg9
  z9 := Tryd.sizeOf9
  v9 := Tryd.zeroValue9
  t24 := Tryd.underlying22
  a24 := Tryd.isAgg22
  z24 := Tryd.sizeOf22
  v24 := Tryd.zeroValue22
  i9 := by kernel_rfl }
open Go.RowKit Go.Lib in
theorem Tryd.slices_Clone_string (b off n c : Nat) (zs : List ByteArray) (w : World) (hz : n ≤ zs.length) (hbig : n * 16 ≤ 140737488355328) (hc : ∀ j, j < zs.length → w.cell? ⟨b, off + j, none⟩ = some (.string (zs.getD j ByteArray.empty))) :
    Calls Tryd.prog 36 #[.slice (some ⟨b, off, none⟩) n c] w fun e w' => ∃ v', e = .returned v' ∧ w'.ownsRow w.heap.size 9 1 v' n ((zs.take n).map (Value.string)) ∧ v' ≠ .slice none 0 0 ∧ Below w.heap.size w w' := Any.slices_Clone_string Tryd.laysNm216 b off n c zs w hz hbig hc
open Go.RowKit Go.Lib in
theorem Tryd.slices_Clone_string_zero (a : Addr) (c : Nat) (w : World) :
    Calls Tryd.prog 36 #[.slice (some a) 0 c] w fun e w' => ∃ v', e = .returned v' ∧ w'.ownsRow w.heap.size 9 1 v' 0 [] ∧ v' ≠ .slice none 0 0 ∧ Below w.heap.size w w' := Any.slices_Clone_string_zero Tryd.laysNm216 a c w
end Go.Proofs
namespace Kw
open Go Go.RowKit Go.Proofs Go.Shelf
set_option maxRecDepth 100000
theorem hi9 : (Tryd.prog.info? (Tryd.lays221_ren.t 9)).map (fun i => (i.zero, i.size, i.bytes)) = some (some (.string ByteArray.empty), 1, 16) := by kernel_rfl
theorem genSplit_at (s : ByteArray) (w : World) (hs : s.size ≤ 2000000) :
    Calls Tryd.prog 34 #[.string s, .string ⟨#[59]⟩, .int .i64 1, .int .i64 (-1)] w fun e w' =>
      e = .returned (.slice (some ⟨w.heap.size, 0, none⟩) ((cutS [] s.data.toList).length + 1) ((cutS [] s.data.toList).length + 1)) ∧
      w' = w.alloc (.cells (((cutS [] s.data.toList ++ [restS [] s.data.toList]).map fun x => Value.string (bs x)).toArray) 9) := by
  have hc : Lib.countB s ⟨#[59]⟩ = (cutS [] s.data.toList).length := by
    show Lib.count s.data.toList [59] = _
    rw [Lib.count_one, cutS_count]
  have hC : Calls Tryd.prog 52 #[.string s, .string ⟨#[59]⟩] w fun e w' => e = .returned (.int .i64 (Lib.countB s ⟨#[59]⟩)) ∧ w' = w := by
    refine (Any.strings_Count_one (ρ := Tryd.lays221_ren) { Tryd.lays221 with } s 59 w).mono fun e w' ⟨he, hw⟩ => ⟨?_, hw⟩
    rw [he]
    show _ = Ending.returned (Value.int .i64 ((Lib.count s.data.toList [59] : Nat) : Int))
    rw [Lib.count_one]
    rfl
  have hI : ∀ (x : ByteArray) (c : Array Value), x.size ≤ s.size → Calls Tryd.prog 53 #[.string x, .string ⟨#[59]⟩] (w.alloc (.cells c 9)) fun e w' => e = .returned (.int .i64 (Lib.indexB x ⟨#[59]⟩)) ∧ w' = w.alloc (.cells c 9) := fun x c _ => by
    refine (Any.strings_Index_one (ρ := Tryd.lays221_ren) { Tryd.lays221 with } x 59 _).mono fun e w' ⟨he, hw⟩ => ⟨?_, hw⟩
    rw [he]
    show _ = Ending.returned (Value.int .i64 (Lib.index x.data.toList [59]))
    rw [Lib.index_one]
  have hle : (cutS [] s.data.toList).length ≤ s.size := by
    rw [cutS_count]
    exact List.count_le_length
  have h := Any.strings_genSplit_core Tryd.lays221 hi9 s ⟨#[59]⟩ 1 (-1) ((cutS [] s.data.toList).length + 1) w (by omega) (by decide) (by decide) hI hC (by decide) (by decide) (by rw [if_pos (by decide), hc]; omega)
  have e1 : Lib.splitB ⟨#[59]⟩ 1 ((cutS [] s.data.toList).length + 1 - 1) s = (cutS [] s.data.toList ++ [restS [] s.data.toList]).map bs := by
    rw [Nat.add_sub_cancel, ← splitB_cut, ← hc]
    show Lib.splitB _ _ (Lib.count s.data.toList [59]) s = _
    rw [Lib.count_one]
    rfl
  rw [e1] at h
  have e2 : ((cutS [] s.data.toList ++ [restS [] s.data.toList]).map bs).length = (cutS [] s.data.toList).length + 1 := by simp
  have e3 : Lib.cellsOf ((cutS [] s.data.toList ++ [restS [] s.data.toList]).map bs) ((cutS [] s.data.toList).length + 1) = ((cutS [] s.data.toList ++ [restS [] s.data.toList]).map fun x => Value.string (bs x)).toArray := by
    rw [← e2, Lib.cellsOf_full, List.map_map]; rfl
  rw [e2, e3] at h
  exact h
theorem splitAfter_at (s : ByteArray) (w : World) (hs : s.size ≤ 2000000) :
    Calls Tryd.prog 14 #[.string s, .string ⟨#[59]⟩] w fun e w' =>
      e = .returned (.slice (some ⟨w.heap.size, 0, none⟩) ((cutS [] s.data.toList).length + 1) ((cutS [] s.data.toList).length + 1)) ∧
      w' = w.alloc (.cells (((cutS [] s.data.toList ++ [restS [] s.data.toList]).map fun x => Value.string (bs x)).toArray) 9) := by
  have c := genSplit_at s w hs
  go_enter Tryd.func14, Tryd.ntmps14
  go_wp2_with (go_at_call 34; refine c.mono ?_; rintro e w' ⟨rfl, hw⟩; rw [hw])
  go_ret
  exact ⟨rfl, by rw [List.map_append]; rfl⟩
theorem clip_at (g n c : Nat) (hn : n ≤ c) (w : World) : Calls Tryd.prog 35 #[.slice (some ⟨g, 0, none⟩) n c] w fun e w' => e = .returned (.slice (some ⟨g, 0, none⟩) n n) ∧ w' = w := by
  go_enter Tryd.func35, Tryd.ntmps35
  go_wp2
  go_ret
  exact ⟨rfl, rfl⟩
theorem owns_parts {w : World} {B : Nat} {v : Value} {n : Nat} {xs : List Value} (h : w.ownsRow B 9 1 v n xs) (hv : v ≠ .slice none 0 0) :
    ∃ g cap cur, v = .slice (some ⟨g, 0, none⟩) n cap ∧ n ≤ cap ∧ B ≤ g ∧ w.heap[g]? = some (.cells cur 9 (0, 0)) ∧ n ≤ cur.size ∧ cur.toList.take n = xs := by
  obtain ⟨_, ⟨e, _⟩ | ⟨g, cap, cur, e, hb, hh, hle, _, hs, ht⟩⟩ := h
  · exact absurd e hv
  · exact ⟨g, cap, cur, e, hle, hb, hh, by omega, by simpa using ht⟩
theorem clone_at (b off n c : Nat) (zs : List ByteArray) (w : World) (hz : n ≤ zs.length) (hbig : n * 16 ≤ 140737488355328) (hc : ∀ j, j < zs.length → w.cell? ⟨b, off + j, none⟩ = some (.string (zs.getD j ByteArray.empty))) :
    Calls Tryd.prog 15 #[.slice (some ⟨b, off, none⟩) n c] w fun e w' => ∃ g cur, e = .returned (.slice (some ⟨g, 0, none⟩) n n) ∧ w.heap.size ≤ g ∧ w'.heap[g]? = some (.cells cur 9 (0, 0)) ∧ n ≤ cur.size ∧ cur.toList.take n = (zs.take n).map Value.string ∧ Below w.heap.size w w' := by
  have k := Tryd.slices_Clone_string b off n c zs w hz hbig hc
  clear hc
  go_enter Tryd.func15, Tryd.ntmps15
  go_wp2_with (go_at_call 36; refine k.mono ?_; rintro e w' ⟨v', rfl, hown, hnn, hB⟩)
  obtain ⟨g, cap, cur, rfl, hle, hg, hh, hsz, htk⟩ := owns_parts hown hnn
  clear hown hnn
  have k2 := clip_at g n cap hle w'
  have A : Aside (w'.heap[g]? = some (.cells cur 9 (0, 0)) ∧ cur.toList.take n = (zs.take n).map Value.string) := ⟨hh, htk⟩
  clear hh htk
  go_wp2_with (go_at_call 35; refine k2.mono ?_; rintro e w'' ⟨rfl, rfl⟩)
  go_ret
  exact ⟨g, cur, rfl, hg, A.out.1, hsz, A.out.2, hB⟩
theorem alloc_self (w : World) (o : Go.Obj) : (w.alloc o).heap[w.heap.size]? = some o := by unfold World.alloc; simp
theorem cell_piece (w : World) (l : List (List UInt8)) (j : Nat) (hj : j < (l.map bs).length) :
    (w.alloc (.cells ((l.map fun x => Value.string (bs x)).toArray) 9)).cell? ⟨w.heap.size, 0 + j, none⟩ = some (.string ((l.map bs).getD j ByteArray.empty)) := by
  rw [cell_cells (alloc_self w _)]
  rw [List.length_map] at hj
  rw [List.getElem?_toArray, List.getElem?_map, Nat.zero_add, List.getElem?_eq_getElem hj, List.getD_eq_getElem?_getD, List.getElem?_map, List.getElem?_eq_getElem hj]
  rfl
theorem below_trans {a b c : World} (h1 : Below a.heap.size a b) (hs : a.heap.size ≤ b.heap.size) (h2 : Below b.heap.size b c) : Below a.heap.size a c :=
  ⟨h2.os.trans h1.os, h2.tape.trans h1.tape, h2.output.trans h1.output, Nat.le_trans h1.size h2.size, fun k hk => (h2.block k (Nat.lt_of_lt_of_le hk hs)).trans (h1.block k hk)⟩
theorem tagNames_at (s : ByteArray) (w : World) (hs : s.size ≤ 2000000) :
    Calls Tryd.prog 6 #[.string s] w fun e w' => ∃ g cur, e = .returned (.slice (some ⟨g, 0, none⟩) (cutS [] s.data.toList).length (cutS [] s.data.toList).length) ∧ w.heap.size ≤ g ∧ w'.heap[g]? = some (.cells cur 9 (0, 0)) ∧
      (cutS [] s.data.toList).length ≤ cur.size ∧ cur.toList.take (cutS [] s.data.toList).length = (cutS [] s.data.toList).map (fun x => Value.string (bs x)) ∧ Below w.heap.size w w' := by
  have k := splitAfter_at s w hs
  have hlen : (cutS [] s.data.toList).length ≤ 2000000 := by
    have h1 : (cutS [] s.data.toList).length ≤ s.size := by rw [cutS_count]; exact List.count_le_length
    omega
  generalize hc : cutS [] s.data.toList = cs at k hlen
  generalize hr : restS [] s.data.toList = rs at k
  clear hc hr
  have hz : cs.length ≤ ((cs ++ [rs]).map bs).length := by rw [List.length_map, List.length_append]; omega
  have k2 := clone_at w.heap.size 0 cs.length (cs.length + 1) ((cs ++ [rs]).map bs) (w.alloc (.cells (((cs ++ [rs]).map fun x => Value.string (bs x)).toArray) 9)) hz (by omega) (cell_piece w (cs ++ [rs]))
  have ht : (((cs ++ [rs]).map bs).take cs.length).map Value.string = cs.map (fun x => Value.string (bs x)) := by
    rw [← List.map_take, List.take_left', List.map_map]; rfl
    rfl
  rw [ht] at k2
  have hB : Below w.heap.size w (w.alloc (.cells (((cs ++ [rs]).map fun x => Value.string (bs x)).toArray) 9)) := (Below.refl _ w).alloc (Nat.le_refl _) _
  have hsz : w.heap.size ≤ (w.alloc (.cells (((cs ++ [rs]).map fun x => Value.string (bs x)).toArray) 9)).heap.size := hB.size
  generalize w.alloc (.cells (((cs ++ [rs]).map fun x => Value.string (bs x)).toArray) 9) = w1 at k k2 hB hsz
  generalize hn : cs.length = n at k k2 hlen
  have A : Aside (w.heap.size ≤ w1.heap.size ∧ Below w.heap.size w w1 ∧ n ≤ 2000000 ∧ cs.length = n) := ⟨hsz, hB, hlen, hn⟩
  clear hsz hB hn ht hz
  generalize cs.map (fun x => Value.string (bs x)) = vals at k2 ⊢
  go_enter Tryd.func6, Tryd.ntmps6
  go_wp2_with (go_at_call 14; refine k.mono ?_; rintro e w' ⟨rfl, rfl⟩)
  go_wp2_with (go_at_call 15; refine k2.mono ?_; rintro e w' ⟨g, cur, rfl, hg, hh, hsz, htk, hB2⟩)
  go_ret
  exact ⟨g, cur, rfl, Nat.le_trans A.out.1 hg, hh, hsz, htk, below_trans A.out.2.1 A.out.1 hB2⟩
theorem enterTn (s : ByteArray) (w : World) : (callFunc 6 #[.string s]).run Tryd.prog w = .ok (.enter 6 #[.string s]) w :=
  run_enter (c := body Tryd.f6) Tryd.func6 (by kernel_rfl) (by kernel_rfl) _ _
theorem own_pieces {w' : World} {prot : Nat → Prop} {B g n : Nat} {cur : Array Value} {l : List (List UInt8)} (hn : l.length = n) (hg : B ≤ g) (hh : w'.heap[g]? = some (.cells cur 9 (0, 0))) (hs : n ≤ cur.size) (ht : cur.toList.take n = l.map fun x => Value.string (bs x)) :
    OwnV B prot w' (.slice (some ⟨g, 0, none⟩) n n) (l.map fun x => [.str (bs x)]) := by
  subst hn
  refine .inr ⟨g, l.length, 1, cur, 9, by rw [List.length_map], hg, hh, ⟨by omega, fun e => by simpa using e⟩, by simp, fun i row hi => ?_⟩
  rw [List.getElem?_map] at hi
  obtain ⟨x, hx, e⟩ := Option.map_eq_some_iff.1 hi
  subst e
  refine ⟨rfl, fun j m hj => ?_⟩
  cases j with
  | zero =>
    simp at hj
    subst hj
    have hil : i < l.length := (List.getElem?_eq_some_iff.1 hx).1
    refine ⟨.string (bs x), ?_, .str _⟩
    have h1 : (cur.toList.take l.length)[i]? = some (Value.string (bs x)) := by rw [ht, List.getElem?_map, hx]; rfl
    rw [List.getElem?_take_of_lt hil] at h1
    simpa using h1
  | succ j => simp at hj
theorem tagn_ok : RunOk Tryd.prog fun f' args imps => if f' = 6 then (tagQ args).map fun m => (m, imps) else none := by
  refine ext_ok3 (q := tagQ) (fun args m h => ?_) fun args m h vals w prot hp hv => ?_
  · unfold tagQ at h
    split at h
    · rfl
    · cases h
  · unfold tagQ at h
    split at h
    · rename_i s
      split at h
      · rename_i hs
        cases h
        have hv' : vals = #[.string s] := by
          obtain ⟨l⟩ := vals
          change Rl _ l _ at hv
          cases hv with
          | cons h1 h2 => cases h2; cases h1; rfl
        subst hv'
        refine upon_calls (enterTn s w) ((tagNames_at s w hs).mono fun e w' ⟨g, cur, he, hg, hh, hsz, ht, hB⟩ => ⟨_, he, ⟨_, rfl, own_pieces rfl hg hh hsz ht⟩, hB⟩)
      · cases h
    · cases h
end Kw
namespace Kw
open Go Go.Proofs
def LexAt (i : Nat) : Prop := ∀ (fn : Func) (c : Code), Tryd.prog.funcs[i]? = some fn → fn.body = some c → lexAll c = true
theorem lex_at {i : Nat} {g : Func} (hf : Tryd.prog.funcs[i]? = some g) (hl : lexAll (body g) = true) : LexAt i := fun fn c h1 h2 => by
  rw [hf] at h1; cases h1; unfold body at hl; rw [h2] at hl; exact hl
theorem lex_3 : LexAt 3 := lex_at Tryd.func3 (by kernel_rfl)
theorem lex_5 : LexAt 5 := lex_at Tryd.func5 (by kernel_rfl)
theorem lex_7 : LexAt 7 := lex_at Tryd.func7 (by kernel_rfl)
theorem lex_8 : LexAt 8 := lex_at Tryd.func8 (by kernel_rfl)
theorem lex_9 : LexAt 9 := lex_at Tryd.func9 (by kernel_rfl)
theorem lex_16 : LexAt 16 := lex_at Tryd.func16 (by kernel_rfl)
theorem lex_all : ∀ i ∈ okL, LexAt i := List.forall_mem_cons.2 ⟨lex_3, List.forall_mem_cons.2 ⟨lex_5, List.forall_mem_cons.2 ⟨lex_7, List.forall_mem_cons.2 ⟨lex_8, List.forall_mem_cons.2 ⟨lex_9, List.forall_mem_cons.2 ⟨lex_16, fun _ h => absurd h List.not_mem_nil⟩⟩⟩⟩⟩⟩
theorem name_all : (Tryd.prog.funcs.toList.all fun fn => !(fn.name == "runtime.NumGoroutine")) = true := by kernel_rfl
theorem name_ok (f : FuncId) (fn : Func) (h : Tryd.prog.funcs[f]? = some fn) : (fn.name == "runtime.NumGoroutine") = false := by
  have hm : fn ∈ Tryd.prog.funcs.toList := by
    rw [← Array.getElem?_toList] at h; exact List.mem_of_getElem? h
  have := List.all_eq_true.1 name_all fn hm
  simpa using this
theorem mixed : Tryd.prog.follows .mixedOrders = true := by kernel_rfl
theorem lex_ok (f : FuncId) (fn : Func) (c : Code) (h1 : E.P.funcs[f]? = some fn) (h2 : fn.body = some c) (h3 : E.okf f = true) : lexAll c = true := lex_all f (List.contains_iff_mem.1 h3) fn c h1 h2
end Kw
namespace Kw
open Go Go.RowKit Go.Proofs
set_option maxRecDepth 100000 in
theorem run_ok {L : Nat} (D : Nat) : RunOk Tryd.prog (ev E L D) := by
  have hm : E.P.follows .mixedOrders = true := mixed
  have hn : ∀ (f : FuncId) (fn : Func), E.P.funcs[f]? = some fn → (fn.name == "runtime.NumGoroutine") = false := name_ok
  have hext : ∀ f q, E.ext f = some q → RunOk E.P fun f' args imps => if f' = f then (q args).map fun m => (m, imps) else none := fun f q hq => by
    have h : (bif f == 6 then some tagQ else none) = some q := hq
    cases hf : (f == 6) with
    | true =>
      rw [hf] at h
      cases h
      have : f = 6 := by simpa using hf
      subst this
      exact @tagn_ok
    | false => rw [hf] at h; cases h
  have h : RunOk E.P (ev E L D) := sound (L := L) hm hn lex_ok hext D
  exact @h
end Kw
