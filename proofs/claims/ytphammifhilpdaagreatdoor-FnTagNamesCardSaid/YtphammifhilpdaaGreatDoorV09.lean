import Derived.Shelf.Strconv.Atoi
import Derived.Test.YtphammifhilpdaaGreatDoorProg
import Derived.Shelf.Strings.Split
import Derived.Shelf.Slices.Clone
import Derived.Test.YtphammifhilpdaaGreatDoorV07
import Derived.WalkKit
import Derived.Tactics
import Derived.Lib.Walk
import Derived.Test.YtphammifhilpdaaGreatDoorV08
import Derived.Lib.SmallJoins
import Derived.ProofKit
import Derived.ChangeSlices
import Derived.ChangeOld
import Derived.Carry
namespace Go.Proofs
open Go.Shelf
def Tryz.lays172_ren : Go.Shelf.Ren := ⟨fun | 172 => 74 | 244 => 96 | 245 => 97 | 247 => 117 | 279 => 118 | 280 => 119 | 281 => 120 | 282 => 121 | 287 => 126 | 316 => 127 | 171 => 129 | 205 => 128 | 321 => 130 | 322 => 131 | 243 => 132 | 246 => 133 | 283 => 134 | 284 => 135 | 285 => 136 | 286 => 137 | 129 => 139 | 317 => 138 | 318 => 140 | 319 => 141 | 320 => 142 | 337 => 143 | 338 => 144 | n => n, fun | 9 => 9 | 3 => 3 | 75 => 125 | 76 => 126 | 4 => 4 | 5 => 5 | 167 => 165 | 37 => 22 | 0 => 0 | 85 => 166 | 2 => 2 | 168 => 168 | 53 => 174 | 175 => 175 | 46 => 123 | 210 => 178 | 127 => 181 | 145 => 184 | 143 => 182 | 21 => 21 | 171 => 186 | 173 => 189 | 212 => 192 | 51 => 148 | 20 => 20 | 213 => 193 | 232 => 196 | 233 => 197 | 80 => 198 | n => n, fun | 15 => 3 | 16 => 4 | 17 => 5 | 18 => 6 | 19 => 7 | n => n⟩
theorem Tryz.lays172 : Go.Proofs.Lays.n172 Tryz.prog Tryz.lays172_ren := {
  mixed := by kernel_rfl
  f129 := Tryz.func139.trans (congrArg some (by kernel_rfl))
  f171 := Tryz.func129.trans (congrArg some (by kernel_rfl))
  f172 := Tryz.func74.trans (congrArg some (by kernel_rfl))
  f205 := Tryz.func128.trans (congrArg some (by kernel_rfl))
  f243 := Tryz.func132.trans (congrArg some (by kernel_rfl))
  f244 := Tryz.func96.trans (congrArg some (by kernel_rfl))
  f245 := Tryz.func97.trans (congrArg some (by kernel_rfl))
  f246 := Tryz.func133.trans (congrArg some (by kernel_rfl))
  f247 := Tryz.func117.trans (congrArg some (by kernel_rfl))
  f279 := Tryz.func118.trans (congrArg some (by kernel_rfl))
  f280 := Tryz.func119.trans (congrArg some (by kernel_rfl))
  f281 := Tryz.func120.trans (congrArg some (by kernel_rfl))
  f282 := Tryz.func121.trans (congrArg some (by kernel_rfl))
  f283 := Tryz.func134.trans (congrArg some (by kernel_rfl))
  f284 := Tryz.func135.trans (congrArg some (by kernel_rfl))
  f285 := Tryz.func136.trans (congrArg some (by kernel_rfl))
  f286 := Tryz.func137.trans (congrArg some (by kernel_rfl))
  f287 := Tryz.func126.trans (congrArg some (by kernel_rfl))
  f316 := Tryz.func127.trans (congrArg some (by kernel_rfl))
  f317 := Tryz.func138.trans (congrArg some (by kernel_rfl))
  f318 := Tryz.func140.trans (congrArg some (by kernel_rfl))
  f319 := Tryz.func141.trans (congrArg some (by kernel_rfl))
  f320 := Tryz.func142.trans (congrArg some (by kernel_rfl))
  f321 := Tryz.func130.trans (congrArg some (by kernel_rfl))
  f322 := Tryz.func131.trans (congrArg some (by kernel_rfl))
  f337 := Tryz.func143.trans (congrArg some (by kernel_rfl))
  f338 := Tryz.func144.trans (congrArg some (by kernel_rfl))
  t0 := Tryz.underlying0
  a0 := Tryz.isAgg0
  z0 := Tryz.sizeOf0
  v0 := Tryz.zeroValue0
  t2 := Tryz.underlying2
  a2 := Tryz.isAgg2
  z2 := Tryz.sizeOf2
  v2 := Tryz.zeroValue2
  t3 := Tryz.underlying3
  a3 := Tryz.isAgg3
  z3 := Tryz.sizeOf3
  v3 := Tryz.zeroValue3
  t4 := Tryz.underlying4
  a4 := Tryz.isAgg4
  z4 := Tryz.sizeOf4
  v4 := Tryz.zeroValue4
  t5 := Tryz.underlying5
  a5 := Tryz.isAgg5
  z5 := Tryz.sizeOf5
  v5 := Tryz.zeroValue5
  t9 := Tryz.underlying9
  a9 := Tryz.isAgg9
  z9 := Tryz.sizeOf9
  v9 := Tryz.zeroValue9
  t20 := Tryz.underlying20
  a20 := Tryz.isAgg20
  z20 := Tryz.sizeOf20
  v20 := Tryz.zeroValue20
  t21 := Tryz.underlying21
  a21 := Tryz.isAgg21
  z21 := Tryz.sizeOf21
  v21 := Tryz.zeroValue21
  t37 := Tryz.underlying22
  a37 := Tryz.isAgg22
  z37 := Tryz.sizeOf22
  v37 := Tryz.zeroValue22
  t46 := Tryz.underlying123
  a46 := Tryz.isAgg123
  z46 := Tryz.sizeOf123
  v46 := Tryz.zeroValue123
  t51 := Tryz.underlying148
  a51 := Tryz.isAgg148
  z51 := Tryz.sizeOf148
  v51 := Tryz.zeroValue148
  t53 := Tryz.underlying174
  a53 := Tryz.isAgg174
  z53 := Tryz.sizeOf174
  v53 := Tryz.zeroValue174
  t75 := Tryz.underlying125
  a75 := Tryz.isAgg125
  z75 := Tryz.sizeOf125
  v75 := Tryz.zeroValue125
  t76 := Tryz.underlying126
  a76 := Tryz.isAgg126
  z76 := Tryz.sizeOf126
  v76 := Tryz.zeroValue126
  t85 := Tryz.underlying166
  a85 := Tryz.isAgg166
  z85 := Tryz.sizeOf166
  v85 := Tryz.zeroValue166
  t127 := Tryz.underlying181
  a127 := Tryz.isAgg181
  z127 := Tryz.sizeOf181
  v127 := Tryz.zeroValue181
  t143 := Tryz.underlying182
  a143 := Tryz.isAgg182
  z143 := Tryz.sizeOf182
  v143 := Tryz.zeroValue182
  t145 := Tryz.underlying184
  a145 := Tryz.isAgg184
  z145 := Tryz.sizeOf184
  v145 := Tryz.zeroValue184
  t167 := Tryz.underlying165
  a167 := Tryz.isAgg165
  z167 := Tryz.sizeOf165
  v167 := Tryz.zeroValue165
  t168 := Tryz.underlying168
  a168 := Tryz.isAgg168
  z168 := Tryz.sizeOf168
  v168 := Tryz.zeroValue168
  t171 := Tryz.underlying186
  a171 := Tryz.isAgg186
  z171 := Tryz.sizeOf186
  v171 := Tryz.zeroValue186
  t173 := Tryz.underlying189
  a173 := Tryz.isAgg189
  z173 := Tryz.sizeOf189
  v173 := Tryz.zeroValue189
  t175 := Tryz.underlying175
  a175 := Tryz.isAgg175
  z175 := Tryz.sizeOf175
  v175 := Tryz.zeroValue175
  t210 := Tryz.underlying178
  a210 := Tryz.isAgg178
  z210 := Tryz.sizeOf178
  v210 := Tryz.zeroValue178
  t212 := Tryz.underlying192
  a212 := Tryz.isAgg192
  z212 := Tryz.sizeOf192
  v212 := Tryz.zeroValue192
  t213 := Tryz.underlying193
  a213 := Tryz.isAgg193
  z213 := Tryz.sizeOf193
  t232 := Tryz.underlying196
  a232 := Tryz.isAgg196
  z232 := Tryz.sizeOf196
  v232 := Tryz.zeroValue196
  t233 := Tryz.underlying197
  a233 := Tryz.isAgg197
  z233 := Tryz.sizeOf197
  v233 := Tryz.zeroValue197
  g15 := by kernel_rfl
  g16 := by kernel_rfl
  g17 := by kernel_rfl
  g18 := by kernel_rfl
  g19 := by kernel_rfl }
open Go.RowKit in
theorem Tryz.strconv_Atoi (s : ByteArray) (n : Int) (hl : s.size ≤ 18) (h : Lib.atoi s.data.toList = some n) (w : World) :
    Calls Tryz.prog 74 #[.string s] w fun e w' => e = .returned (.tuple #[.int .i64 n, .nilIface]) ∧ ∃ t, w' = Lib.bytesWorld w 5 t := Any.strconv_Atoi Tryz.lays172 s n hl h w
end Go.Proofs
namespace Go.Proofs
open Go.Shelf
def Tryz.lays221_ren : Go.Shelf.Ren := ⟨fun | 221 => 21 | 268 => 30 | 138 => 31 | 143 => 32 | 195 => 46 | 197 => 47 | 218 => 48 | 219 => 49 | 260 => 68 | 217 => 69 | 225 => 70 | 224 => 71 | 267 => 72 | 266 => 93 | 314 => 94 | n => n, fun | 9 => 9 | 3 => 3 | 31 => 24 | 4 => 4 | 0 => 0 | 105 => 94 | 21 => 21 | 5 => 5 | 46 => 123 | 119 => 144 | 139 => 147 | 138 => 146 | 146 => 149 | 51 => 148 | n => n, fun | 1 => 0 | 3 => 1 | 4 => 2 | n => n⟩
theorem Tryz.lays221 : Go.Proofs.Lays.n221 Tryz.prog Tryz.lays221_ren := {
  mixed := by kernel_rfl
  f138 := Tryz.func31.trans (congrArg some (by kernel_rfl))
  f143 := Tryz.func32.trans (congrArg some (by kernel_rfl))
  f195 := Tryz.func46.trans (congrArg some (by kernel_rfl))
  f197 := Tryz.func47.trans (congrArg some (by kernel_rfl))
  f217 := Tryz.func69.trans (congrArg some (by kernel_rfl))
  f218 := Tryz.func48.trans (congrArg some (by kernel_rfl))
  f219 := Tryz.func49.trans (congrArg some (by kernel_rfl))
  f221 := Tryz.func21.trans (congrArg some (by kernel_rfl))
  f224 := Tryz.func71.trans (congrArg some (by kernel_rfl))
  f225 := Tryz.func70.trans (congrArg some (by kernel_rfl))
  f260 := Tryz.func68.trans (congrArg some (by kernel_rfl))
  f266 := Tryz.func93.trans (congrArg some (by kernel_rfl))
  f267 := Tryz.func72.trans (congrArg some (by kernel_rfl))
  f268 := Tryz.func30.trans (congrArg some (by kernel_rfl))
  f314 := Tryz.func94.trans (congrArg some (by kernel_rfl))
  t0 := Tryz.underlying0
  a0 := Tryz.isAgg0
  z0 := Tryz.sizeOf0
  v0 := Tryz.zeroValue0
  t3 := Tryz.underlying3
  a3 := Tryz.isAgg3
  z3 := Tryz.sizeOf3
  v3 := Tryz.zeroValue3
  t4 := Tryz.underlying4
  a4 := Tryz.isAgg4
  z4 := Tryz.sizeOf4
  v4 := Tryz.zeroValue4
  t5 := Tryz.underlying5
  a5 := Tryz.isAgg5
  z5 := Tryz.sizeOf5
  v5 := Tryz.zeroValue5
  t9 := Tryz.underlying9
  a9 := Tryz.isAgg9
  z9 := Tryz.sizeOf9
  v9 := Tryz.zeroValue9
  t21 := Tryz.underlying21
  a21 := Tryz.isAgg21
  z21 := Tryz.sizeOf21
  v21 := Tryz.zeroValue21
  t31 := Tryz.underlying24
  a31 := Tryz.isAgg24
  z31 := Tryz.sizeOf24
  v31 := Tryz.zeroValue24
  t46 := Tryz.underlying123
  a46 := Tryz.isAgg123
  z46 := Tryz.sizeOf123
  v46 := Tryz.zeroValue123
  t51 := Tryz.underlying148
  a51 := Tryz.isAgg148
  z51 := Tryz.sizeOf148
  v51 := Tryz.zeroValue148
  t105 := Tryz.underlying94
  a105 := Tryz.isAgg94
  z105 := Tryz.sizeOf94
  v105 := Tryz.zeroValue94
  t119 := Tryz.underlying144
  a119 := Tryz.isAgg144
  z119 := Tryz.sizeOf144
  t138 := Tryz.underlying146
  a138 := Tryz.isAgg146
  z138 := Tryz.sizeOf146
  v138 := Tryz.zeroValue146
  t139 := Tryz.underlying147
  a139 := Tryz.isAgg147
  z139 := Tryz.sizeOf147
  v139 := Tryz.zeroValue147
  t146 := Tryz.underlying149
  a146 := Tryz.isAgg149
  z146 := Tryz.sizeOf149
  v146 := Tryz.zeroValue149
  g1 := by kernel_rfl
  g3 := by kernel_rfl
  g4 := by kernel_rfl }
def Tryz.laysNm216_ren : Go.Shelf.Ren := ⟨fun | 16 => 23 | n => n, fun | 24 => 24 | 9 => 9 | 4 => 4 | n => n, fun | n => n⟩
theorem Tryz.laysNm216 : Go.Proofs.Lays2.n16 Tryz.prog Tryz.laysNm216_ren := {
  mixed := by kernel_rfl
  f16 := Tryz.func23.trans (congrArg some (by kernel_rfl))
  t4 := Tryz.underlying4
  a4 := Tryz.isAgg4
  z4 := Tryz.sizeOf4
  v4 := Tryz.zeroValue4
  t9 := Tryz.underlying9
  a9 := Tryz.isAgg9
  z9 := Tryz.sizeOf9
  v9 := Tryz.zeroValue9
  t24 := Tryz.underlying24
  a24 := Tryz.isAgg24
  z24 := Tryz.sizeOf24
  v24 := Tryz.zeroValue24
  i9 := by kernel_rfl }
open Go.RowKit Go.Lib in
theorem Tryz.slices_Clone_string (b off n c : Nat) (zs : List ByteArray) (w : World) (hz : n ≤ zs.length) (hbig : n * 16 ≤ 140737488355328) (hc : ∀ j, j < zs.length → w.cell? ⟨b, off + j, none⟩ = some (.string (zs.getD j ByteArray.empty))) :
    Calls Tryz.prog 23 #[.slice (some ⟨b, off, none⟩) n c] w fun e w' => ∃ v', e = .returned v' ∧ w'.ownsRow w.heap.size 9 1 v' n ((zs.take n).map (Value.string)) ∧ v' ≠ .slice none 0 0 ∧ Below w.heap.size w w' := Any.slices_Clone_string Tryz.laysNm216 b off n c zs w hz hbig hc
open Go.RowKit Go.Lib in
theorem Tryz.slices_Clone_string_zero (a : Addr) (c : Nat) (w : World) :
    Calls Tryz.prog 23 #[.slice (some a) 0 c] w fun e w' => ∃ v', e = .returned v' ∧ w'.ownsRow w.heap.size 9 1 v' 0 [] ∧ v' ≠ .slice none 0 0 ∧ Below w.heap.size w w' := Any.slices_Clone_string_zero Tryz.laysNm216 a c w
end Go.Proofs
namespace Kw
open Go Go.RowKit Go.Proofs Go.Shelf
set_option maxRecDepth 100000
theorem hi9 : (Tryz.prog.info? (Tryz.lays221_ren.t 9)).map (fun i => (i.zero, i.size, i.bytes)) = some (some (.string ByteArray.empty), 1, 16) := by kernel_rfl
theorem genSplit_at (s : ByteArray) (w : World) (hs : s.size ≤ 2000000) :
    Calls Tryz.prog 21 #[.string s, .string ⟨#[59]⟩, .int .i64 1, .int .i64 (-1)] w fun e w' =>
      e = .returned (.slice (some ⟨w.heap.size, 0, none⟩) ((cutS [] s.data.toList).length + 1) ((cutS [] s.data.toList).length + 1)) ∧
      w' = w.alloc (.cells (((cutS [] s.data.toList ++ [restS [] s.data.toList]).map fun x => Value.string (bs x)).toArray) 9) := by
  have hc : Lib.countB s ⟨#[59]⟩ = (cutS [] s.data.toList).length := by
    show Lib.count s.data.toList [59] = _
    rw [Lib.count_one, cutS_count]
  have hC : Calls Tryz.prog 31 #[.string s, .string ⟨#[59]⟩] w fun e w' => e = .returned (.int .i64 (Lib.countB s ⟨#[59]⟩)) ∧ w' = w := by
    refine (Any.strings_Count_one (ρ := Tryz.lays221_ren) { Tryz.lays221 with } s 59 w).mono fun e w' ⟨he, hw⟩ => ⟨?_, hw⟩
    rw [he]
    show _ = Ending.returned (Value.int .i64 ((Lib.count s.data.toList [59] : Nat) : Int))
    rw [Lib.count_one]
    rfl
  have hI : ∀ (x : ByteArray) (c : Array Value), x.size ≤ s.size → Calls Tryz.prog 32 #[.string x, .string ⟨#[59]⟩] (w.alloc (.cells c 9)) fun e w' => e = .returned (.int .i64 (Lib.indexB x ⟨#[59]⟩)) ∧ w' = w.alloc (.cells c 9) := fun x c _ => by
    refine (Any.strings_Index_one (ρ := Tryz.lays221_ren) { Tryz.lays221 with } x 59 _).mono fun e w' ⟨he, hw⟩ => ⟨?_, hw⟩
    rw [he]
    show _ = Ending.returned (Value.int .i64 (Lib.index x.data.toList [59]))
    rw [Lib.index_one]
  have hle : (cutS [] s.data.toList).length ≤ s.size := by
    rw [cutS_count]
    exact List.count_le_length
  have h := Any.strings_genSplit_core Tryz.lays221 hi9 s ⟨#[59]⟩ 1 (-1) ((cutS [] s.data.toList).length + 1) w (by omega) (by decide) (by decide) hI hC (by decide) (by decide) (by rw [if_pos (by decide), hc]; omega)
  have e1 : Lib.splitB ⟨#[59]⟩ 1 ((cutS [] s.data.toList).length + 1 - 1) s = (cutS [] s.data.toList ++ [restS [] s.data.toList]).map bs := by
    rw [Nat.add_sub_cancel, ← splitB_cut, ← hc]
    show Lib.splitB _ _ (Lib.count s.data.toList [59]) s = _
    rw [Lib.count_one]
    rfl
  rw [e1] at h
  have e2 : ((cutS [] s.data.toList ++ [restS [] s.data.toList]).map bs).length = (cutS [] s.data.toList).length + 1 := by simp
  have e3 : Lib.cellsOf ((cutS [] s.data.toList ++ [restS [] s.data.toList]).map bs) ((cutS [] s.data.toList).length + 1) = ((cutS [] s.data.toList ++ [restS [] s.data.toList]).map fun x => Value.string (bs x)).toArray := by
    rw [← e2, Lib.cellsOf_full, List.map_map]; rfl
  rw [e2, e3] at h
  exact h
theorem splitAfter_at (s : ByteArray) (w : World) (hs : s.size ≤ 2000000) :
    Calls Tryz.prog 15 #[.string s, .string ⟨#[59]⟩] w fun e w' =>
      e = .returned (.slice (some ⟨w.heap.size, 0, none⟩) ((cutS [] s.data.toList).length + 1) ((cutS [] s.data.toList).length + 1)) ∧
      w' = w.alloc (.cells (((cutS [] s.data.toList ++ [restS [] s.data.toList]).map fun x => Value.string (bs x)).toArray) 9) := by
  have c := genSplit_at s w hs
  go_enter Tryz.func15, Tryz.ntmps15
  go_wp2_with (go_at_call 21; refine c.mono ?_; rintro e w' ⟨rfl, hw⟩; rw [hw])
  go_ret
  exact ⟨rfl, by rw [List.map_append]; rfl⟩
theorem clip_at (g n c : Nat) (hn : n ≤ c) (w : World) : Calls Tryz.prog 22 #[.slice (some ⟨g, 0, none⟩) n c] w fun e w' => e = .returned (.slice (some ⟨g, 0, none⟩) n n) ∧ w' = w := by
  go_enter Tryz.func22, Tryz.ntmps22
  go_wp2
  go_ret
  exact ⟨rfl, rfl⟩
theorem owns_parts {w : World} {B : Nat} {v : Value} {n : Nat} {xs : List Value} (h : w.ownsRow B 9 1 v n xs) (hv : v ≠ .slice none 0 0) :
    ∃ g cap cur, v = .slice (some ⟨g, 0, none⟩) n cap ∧ n ≤ cap ∧ B ≤ g ∧ w.heap[g]? = some (.cells cur 9 (0, 0)) ∧ n ≤ cur.size ∧ cur.toList.take n = xs := by
  obtain ⟨_, ⟨e, _⟩ | ⟨g, cap, cur, e, hb, hh, hle, _, hs, ht⟩⟩ := h
  · exact absurd e hv
  · exact ⟨g, cap, cur, e, hle, hb, hh, by omega, by simpa using ht⟩
theorem clone_at (b off n c : Nat) (zs : List ByteArray) (w : World) (hz : n ≤ zs.length) (hbig : n * 16 ≤ 140737488355328) (hc : ∀ j, j < zs.length → w.cell? ⟨b, off + j, none⟩ = some (.string (zs.getD j ByteArray.empty))) :
    Calls Tryz.prog 16 #[.slice (some ⟨b, off, none⟩) n c] w fun e w' => ∃ g cur, e = .returned (.slice (some ⟨g, 0, none⟩) n n) ∧ w.heap.size ≤ g ∧ w'.heap[g]? = some (.cells cur 9 (0, 0)) ∧ n ≤ cur.size ∧ cur.toList.take n = (zs.take n).map Value.string ∧ Below w.heap.size w w' := by
  have k := Tryz.slices_Clone_string b off n c zs w hz hbig hc
  clear hc
  go_enter Tryz.func16, Tryz.ntmps16
  go_wp2_with (go_at_call 23; refine k.mono ?_; rintro e w' ⟨v', rfl, hown, hnn, hB⟩)
  obtain ⟨g, cap, cur, rfl, hle, hg, hh, hsz, htk⟩ := owns_parts hown hnn
  clear hown hnn
  have k2 := clip_at g n cap hle w'
  have A : Aside (w'.heap[g]? = some (.cells cur 9 (0, 0)) ∧ cur.toList.take n = (zs.take n).map Value.string) := ⟨hh, htk⟩
  clear hh htk
  go_wp2_with (go_at_call 22; refine k2.mono ?_; rintro e w'' ⟨rfl, rfl⟩)
  go_ret
  exact ⟨g, cur, rfl, hg, A.out.1, hsz, A.out.2, hB⟩
theorem alloc_self (w : World) (o : Go.Obj) : (w.alloc o).heap[w.heap.size]? = some o := by unfold World.alloc; simp
theorem cell_piece (w : World) (l : List (List UInt8)) (j : Nat) (hj : j < (l.map bs).length) :
    (w.alloc (.cells ((l.map fun x => Value.string (bs x)).toArray) 9)).cell? ⟨w.heap.size, 0 + j, none⟩ = some (.string ((l.map bs).getD j ByteArray.empty)) := by
  rw [cell_cells (alloc_self w _)]
  rw [List.length_map] at hj
  rw [List.getElem?_toArray, List.getElem?_map, Nat.zero_add, List.getElem?_eq_getElem hj, List.getD_eq_getElem?_getD, List.getElem?_map, List.getElem?_eq_getElem hj]
  rfl
theorem below_trans {a b c : World} (h1 : Below a.heap.size a b) (hs : a.heap.size ≤ b.heap.size) (h2 : Below b.heap.size b c) : Below a.heap.size a c :=
  ⟨h2.os.trans h1.os, h2.tape.trans h1.tape, h2.output.trans h1.output, Nat.le_trans h1.size h2.size, fun k hk => (h2.block k (Nat.lt_of_lt_of_le hk hs)).trans (h1.block k hk)⟩
theorem tagNames_at (s : ByteArray) (w : World) (hs : s.size ≤ 2000000) :
    Calls Tryz.prog 5 #[.string s] w fun e w' => ∃ g cur, e = .returned (.slice (some ⟨g, 0, none⟩) (cutS [] s.data.toList).length (cutS [] s.data.toList).length) ∧ w.heap.size ≤ g ∧ w'.heap[g]? = some (.cells cur 9 (0, 0)) ∧
      (cutS [] s.data.toList).length ≤ cur.size ∧ cur.toList.take (cutS [] s.data.toList).length = (cutS [] s.data.toList).map (fun x => Value.string (bs x)) ∧ Below w.heap.size w w' := by
  have k := splitAfter_at s w hs
  have hlen : (cutS [] s.data.toList).length ≤ 2000000 := by
    have h1 : (cutS [] s.data.toList).length ≤ s.size := by rw [cutS_count]; exact List.count_le_length
    omega
  generalize hc : cutS [] s.data.toList = cs at k hlen
  generalize hr : restS [] s.data.toList = rs at k
  clear hc hr
  have hz : cs.length ≤ ((cs ++ [rs]).map bs).length := by rw [List.length_map, List.length_append]; omega
  have k2 := clone_at w.heap.size 0 cs.length (cs.length + 1) ((cs ++ [rs]).map bs) (w.alloc (.cells (((cs ++ [rs]).map fun x => Value.string (bs x)).toArray) 9)) hz (by omega) (cell_piece w (cs ++ [rs]))
  have ht : (((cs ++ [rs]).map bs).take cs.length).map Value.string = cs.map (fun x => Value.string (bs x)) := by
    rw [← List.map_take, List.take_left', List.map_map]; rfl
    rfl
  rw [ht] at k2
  have hB : Below w.heap.size w (w.alloc (.cells (((cs ++ [rs]).map fun x => Value.string (bs x)).toArray) 9)) := (Below.refl _ w).alloc (Nat.le_refl _) _
  have hsz : w.heap.size ≤ (w.alloc (.cells (((cs ++ [rs]).map fun x => Value.string (bs x)).toArray) 9)).heap.size := hB.size
  generalize w.alloc (.cells (((cs ++ [rs]).map fun x => Value.string (bs x)).toArray) 9) = w1 at k k2 hB hsz
  generalize hn : cs.length = n at k k2 hlen
  have A : Aside (w.heap.size ≤ w1.heap.size ∧ Below w.heap.size w w1 ∧ n ≤ 2000000 ∧ cs.length = n) := ⟨hsz, hB, hlen, hn⟩
  clear hsz hB hn ht hz
  generalize cs.map (fun x => Value.string (bs x)) = vals at k2 ⊢
  go_enter Tryz.func5, Tryz.ntmps5
  go_wp2_with (go_at_call 15; refine k.mono ?_; rintro e w' ⟨rfl, rfl⟩)
  go_wp2_with (go_at_call 16; refine k2.mono ?_; rintro e w' ⟨g, cur, rfl, hg, hh, hsz, htk, hB2⟩)
  go_ret
  exact ⟨g, cur, rfl, Nat.le_trans A.out.1 hg, hh, hsz, htk, below_trans A.out.2.1 A.out.1 hB2⟩
theorem enter5 (s : ByteArray) (w : World) : (callFunc 5 #[.string s]).run Tryz.prog w = .ok (.enter 5 #[.string s]) w :=
  run_enter (c := body Tryz.f5) Tryz.func5 (by kernel_rfl) (by kernel_rfl) _ _
theorem own_pieces {w' : World} {prot : Nat → Prop} {B g n : Nat} {cur : Array Value} {l : List (List UInt8)} (hn : l.length = n) (hg : B ≤ g) (hh : w'.heap[g]? = some (.cells cur 9 (0, 0))) (hs : n ≤ cur.size) (ht : cur.toList.take n = l.map fun x => Value.string (bs x)) :
    OwnV B prot w' (.slice (some ⟨g, 0, none⟩) n n) (l.map fun x => [.str (bs x)]) := by
  subst hn
  refine .inr ⟨g, l.length, 1, cur, 9, by rw [List.length_map], hg, hh, ⟨by omega, fun e => by simpa using e⟩, by simp, fun i row hi => ?_⟩
  rw [List.getElem?_map] at hi
  obtain ⟨x, hx, e⟩ := Option.map_eq_some_iff.1 hi
  subst e
  refine ⟨rfl, fun j m hj => ?_⟩
  cases j with
  | zero =>
    simp at hj
    subst hj
    have hil : i < l.length := (List.getElem?_eq_some_iff.1 hx).1
    refine ⟨.string (bs x), ?_, .str _⟩
    have h1 : (cur.toList.take l.length)[i]? = some (Value.string (bs x)) := by rw [ht, List.getElem?_map, hx]; rfl
    rw [List.getElem?_take_of_lt hil] at h1
    simpa using h1
  | succ j => simp at hj
theorem tagn_ok : RunOk Tryz.prog fun f' args imps => if f' = 5 then (tagQ args).map fun m => (m, imps) else none := by
  refine ext_ok3 (q := tagQ) (fun args m h => ?_) fun args m h vals w prot hp hv => ?_
  · unfold tagQ at h
    split at h
    · rfl
    · cases h
  · unfold tagQ at h
    split at h
    · rename_i s
      split at h
      · rename_i hs
        cases h
        have hv' : vals = #[.string s] := by
          obtain ⟨l⟩ := vals
          change Rl _ l _ at hv
          cases hv with
          | cons h1 h2 => cases h2; cases h1; rfl
        subst hv'
        refine upon_calls (enter5 s w) ((tagNames_at s w hs).mono fun e w' ⟨g, cur, he, hg, hh, hsz, ht, hB⟩ => ⟨_, he, ⟨_, rfl, own_pieces rfl hg hh hsz ht⟩, hB⟩)
      · cases h
    · cases h
end Kw
namespace Kw
open Go Go.RowKit Go.Proofs Go.Joins
set_option maxRecDepth 100000
theorem enterAtoi (s : ByteArray) (w : World) : (callFunc 74 #[.string s]).run Tryz.prog w = .ok (.enter 74 #[.string s]) w :=
  run_enter (c := body Tryz.f74) Tryz.func74 (by kernel_rfl) (by kernel_rfl) _ _
theorem atoi_ok : RunOk Tryz.prog fun f' args imps => if f' = 74 then (atoiQ args).map fun m => (m, imps) else none := by
  refine ext_ok (q := atoiQ) (fun args m h => ?_) fun args m h vals w prot hp hv => ?_
  · unfold atoiQ at h
    split at h
    · rfl
    · cases h
  · unfold atoiQ at h
    split at h
    · rename_i s
      split at h
      · rename_i hs
        split at h
        · rename_i n hn
          cases h
          have hv' : vals = #[.string s] := by
            obtain ⟨l⟩ := vals
            change Rl _ l _ at hv
            cases hv with
            | cons h1 h2 => cases h2; cases h1; rfl
          subst hv'
          refine upon_calls (enterAtoi s w) ((Tryz.strconv_Atoi s n hs hn w).mono fun e w' ⟨he, t, ht⟩ => ⟨_, he, ?_, ?_⟩)
          · exact .tup (.cons (.int _ _) (.cons .ifN .nil))
          · rw [ht]; exact below_bytesWorld _ _ _ _ (Nat.le_refl _)
        · cases h
      · cases h
    · cases h
theorem run_ok {L : Nat} (D : Nat) : RunOk Tryz.prog (ev E L D) := by
  have hm : E.P.follows .mixedOrders = true := mixed
  have hn : ∀ (f : FuncId) (fn : Func), E.P.funcs[f]? = some fn → (fn.name == "runtime.NumGoroutine") = false := name_ok
  have hext : ∀ f q, E.ext f = some q → RunOk E.P fun f' args imps => if f' = f then (q args).map fun m => (m, imps) else none := fun f q hq => by
    have h : (bif f == 74 then some atoiQ else bif f == 5 then some tagQ else none) = some q := hq
    cases hf : (f == 74) with
    | true =>
      rw [hf] at h
      cases h
      have : f = 74 := by simpa using hf
      subst this
      exact @atoi_ok
    | false =>
      rw [hf] at h
      cases hf2 : (f == 5) with
      | true =>
        rw [hf2] at h
        cases h
        have : f = 5 := by simpa using hf2
        subst this
        exact @tagn_ok
      | false => rw [hf2] at h; cases h
  have h : RunOk E.P (ev E L D) := sound (L := L) hm hn lex_ok hext D
  exact @h
end Kw
namespace Kw
open Go Go.ChangeShapes Go.WideShapes Go.ChangeAt Go.RowKit
theorem u8_rng {n : Int} (h : (Lit.int .u8 n).wf = true) : 0 ≤ n ∧ n ≤ 255 := by
  simp [Lit.wf, IntKind.min, IntKind.max, IntKind.signed, IntKind.bits] at h
  omega
/-- a slice of bytes that came in -/
theorem open_u8s {H : Type} {enc : TypeId × Value → H} {P : Program} {W : World} {base : Nat} {t e : TypeId} {v : Value} {d : DataW H} {p : List MemPlace} (ht : P.underlying t = some (.slice e)) (he : P.underlying e = some (.int .u8)) (hc : P.cellsOf e = 1)
    (hval : Value.okWide P W .any base t v) (h : DataW.Trod enc P W 0 (fun _ => true) true t v d p) : ∃ l : List UInt8, SV W (there W) v (.sl (l.map fun x => [.int .u8 x.toNat])) := by
  obtain ⟨a1, len, cap, rfl⟩ := okWide_slice ht hval
  obtain ⟨fuel, hf⟩ := h
  rcases open_ints ht he hc hf with ⟨hcs, hx⟩ | ⟨a, len', cap', zs, hcs, _, hl, hm, hz, hx, hcell, hwz⟩
  · simp [Value.cells] at hcs
    obtain ⟨rfl, rfl, rfl⟩ := hcs
    exact ⟨[], .sl 1 (fun _ _ => .int .u8 0) rfl (Nat.le_refl _) (fun i row hi => by simp at hi) (fun h => absurd h (Nat.lt_irrefl 0)) (fun i row j m hi => by simp at hi)⟩
  · simp [Value.cells] at hcs
    obtain ⟨rfl, rfl, rfl⟩ := hcs
    simp only [Prod.mk.injEq] at hx
    obtain ⟨rfl, rfl⟩ := hx
    simp only [if_true] at hz
    have hlen : ((zs.take len).map fun n => UInt8.ofNat n.toNat).length = len := by simp; omega
    refine ⟨(zs.take len).map fun n => UInt8.ofNat n.toNat, ?_⟩
    by_cases h0 : len = 0
    · subst h0
      exact .sl 1 (fun _ _ => .int .u8 0) (by simp) hl (fun i row hi => by simp at hi) (fun h => absurd h (Nat.lt_irrefl 0)) (fun i row j m hi => by simp at hi)
    · have hc0 := hcell 0 (by omega)
      obtain ⟨ab, ao, spot⟩ := a
      have hspot : spot = none := by simpa [Addr.add] using World.cell?_spot hc0
      subst hspot
      have hin : ab < W.heap.size := by
        have := DataW.trod_lt _ _ _ _ hf (.cell ab ao) (by
          simp only [MemPlace.row, List.mem_map, List.mem_range]
          exact ⟨0, by omega, rfl⟩)
        exact this
      refine sv_bytes rfl hin hl _ hlen fun i x hi => ?_
      rw [List.getElem?_map] at hi
      obtain ⟨n, hn, e⟩ := Option.map_eq_some_iff.1 hi
      obtain ⟨hi', hn'⟩ := List.getElem?_eq_some_iff.1 hn
      have hil : i < zs.length := by simp at hi'; omega
      have hcj := hcell i hil
      rw [Addr.add_lit] at hcj
      rw [hcj, ← e]
      have en : zs.getD i 0 = n := by
        rw [← hn']; simp [List.getD, hil]
      rw [en]
      have hb := u8_rng (hwz n (by rw [← hn']; exact List.mem_of_mem_take (List.getElem_mem hi')))
      congr 2
      simp only [UInt8.toNat_ofNat']
      omega
end Kw
