import Derived.Shelf.Strconv.Itoa3
import Derived.Shelf.Strings.OnBuilder
import Derived.Test.YtiogcgalhnjagaaGreatDoorProg
import Derived.Shelf.Strconv.Atoi
import Derived.Test.YtiogcgalhnjagaaGreatDoorV07
import Derived.Lib.ItoaNum
import Derived.Lib.Join
import Derived.Lib.SmallJoins
import Derived.Test.YtiogcgalhnjagaaGreatDoorV08
import Derived.ProofKit
import Derived.ChangeSlices
import Derived.ChangeOld
import Derived.Carry
namespace Go.Proofs
open Go.Shelf
def Tryz.lays171_ren : Go.Shelf.Ren := ⟨fun | 171 => 62 | 243 => 114 | 246 => 168 | 283 => 187 | 284 => 188 | 285 => 189 | 286 => 190 | 129 => 203 | 317 => 202 | 318 => 204 | 319 => 205 | 320 => 206 | 337 => 214 | 338 => 215 | n => n, fun | 3 => 3 | 9 => 9 | 2 => 2 | 4 => 4 | 171 => 185 | 0 => 0 | 53 => 186 | 37 => 22 | 5 => 5 | 173 => 189 | 212 => 205 | 51 => 206 | 20 => 20 | 213 => 207 | 46 => 208 | 232 => 225 | 233 => 226 | n => n, fun | 17 => 0 | 18 => 2 | 19 => 3 | n => n⟩
theorem Tryz.lays171 : Go.Proofs.Lays.n171 Tryz.prog Tryz.lays171_ren := {
  mixed := by kernel_rfl
  f129 := Tryz.func203.trans (congrArg some (by kernel_rfl))
  f171 := Tryz.func62.trans (congrArg some (by kernel_rfl))
  f243 := Tryz.func114.trans (congrArg some (by kernel_rfl))
  f246 := Tryz.func168.trans (congrArg some (by kernel_rfl))
  f283 := Tryz.func187.trans (congrArg some (by kernel_rfl))
  f284 := Tryz.func188.trans (congrArg some (by kernel_rfl))
  f285 := Tryz.func189.trans (congrArg some (by kernel_rfl))
  f286 := Tryz.func190.trans (congrArg some (by kernel_rfl))
  f317 := Tryz.func202.trans (congrArg some (by kernel_rfl))
  f318 := Tryz.func204.trans (congrArg some (by kernel_rfl))
  f319 := Tryz.func205.trans (congrArg some (by kernel_rfl))
  f320 := Tryz.func206.trans (congrArg some (by kernel_rfl))
  f337 := Tryz.func214.trans (congrArg some (by kernel_rfl))
  f338 := Tryz.func215.trans (congrArg some (by kernel_rfl))
  t0 := Tryz.underlying0
  a0 := Tryz.isAgg0
  z0 := Tryz.sizeOf0
  v0 := Tryz.zeroValue0
  t2 := Tryz.underlying2
  a2 := Tryz.isAgg2
  z2 := Tryz.sizeOf2
  v2 := Tryz.zeroValue2
  t3 := Tryz.underlying3
  a3 := Tryz.isAgg3
  z3 := Tryz.sizeOf3
  v3 := Tryz.zeroValue3
  t4 := Tryz.underlying4
  a4 := Tryz.isAgg4
  z4 := Tryz.sizeOf4
  v4 := Tryz.zeroValue4
  t5 := Tryz.underlying5
  a5 := Tryz.isAgg5
  z5 := Tryz.sizeOf5
  v5 := Tryz.zeroValue5
  t9 := Tryz.underlying9
  a9 := Tryz.isAgg9
  z9 := Tryz.sizeOf9
  v9 := Tryz.zeroValue9
  t20 := Tryz.underlying20
  a20 := Tryz.isAgg20
  z20 := Tryz.sizeOf20
  v20 := Tryz.zeroValue20
  t37 := Tryz.underlying22
  a37 := Tryz.isAgg22
  z37 := Tryz.sizeOf22
  v37 := Tryz.zeroValue22
  t46 := Tryz.underlying208
  a46 := Tryz.isAgg208
  z46 := Tryz.sizeOf208
  v46 := Tryz.zeroValue208
  t51 := Tryz.underlying206
  a51 := Tryz.isAgg206
  z51 := Tryz.sizeOf206
  v51 := Tryz.zeroValue206
  t53 := Tryz.underlying186
  a53 := Tryz.isAgg186
  z53 := Tryz.sizeOf186
  v53 := Tryz.zeroValue186
  t171 := Tryz.underlying185
  a171 := Tryz.isAgg185
  z171 := Tryz.sizeOf185
  v171 := Tryz.zeroValue185
  t173 := Tryz.underlying189
  a173 := Tryz.isAgg189
  z173 := Tryz.sizeOf189
  v173 := Tryz.zeroValue189
  t212 := Tryz.underlying205
  a212 := Tryz.isAgg205
  z212 := Tryz.sizeOf205
  v212 := Tryz.zeroValue205
  t213 := Tryz.underlying207
  a213 := Tryz.isAgg207
  z213 := Tryz.sizeOf207
  t232 := Tryz.underlying225
  a232 := Tryz.isAgg225
  z232 := Tryz.sizeOf225
  v232 := Tryz.zeroValue225
  t233 := Tryz.underlying226
  a233 := Tryz.isAgg226
  z233 := Tryz.sizeOf226
  v233 := Tryz.zeroValue226
  g17 := by kernel_rfl
  g18 := by kernel_rfl
  g19 := by kernel_rfl }
open Go.RowKit Go.Lib in
theorem Tryz.strconv_Itoa_small (i : Nat) (hi : i < 100) (w : World) :
    Calls Tryz.prog 62 #[.int .i64 i] w fun e w' => e = .returned (.string ⟨(Lib.decDigits i).toArray⟩) ∧ w' = w := Any.strconv_Itoa_small Tryz.lays171 i hi w
def Tryz.lays156_ren : Go.Shelf.Ren := ⟨fun | 156 => 169 | 165 => 191 | 166 => 192 | 169 => 193 | 240 => 207 | 241 => 208 | 276 => 216 | 277 => 217 | n => n, fun | 31 => 27 | 9 => 9 | 3 => 3 | 4 => 4 | 0 => 0 | 20 => 20 | 72 => 193 | 76 => 197 | 70 => 191 | 37 => 22 | 75 => 196 | 127 => 210 | 164 => 215 | 5 => 5 | 80 => 199 | n => n, fun | n => n⟩
theorem Tryz.lays156 : Go.Proofs.Lays.n156 Tryz.prog Tryz.lays156_ren := {
  mixed := by kernel_rfl
  f156 := Tryz.func169.trans (congrArg some (by kernel_rfl))
  f165 := Tryz.func191.trans (congrArg some (by kernel_rfl))
  f166 := Tryz.func192.trans (congrArg some (by kernel_rfl))
  f169 := Tryz.func193.trans (congrArg some (by kernel_rfl))
  f240 := Tryz.func207.trans (congrArg some (by kernel_rfl))
  f241 := Tryz.func208.trans (congrArg some (by kernel_rfl))
  f276 := Tryz.func216.trans (congrArg some (by kernel_rfl))
  f277 := Tryz.func217.trans (congrArg some (by kernel_rfl))
  t0 := Tryz.underlying0
  a0 := Tryz.isAgg0
  z0 := Tryz.sizeOf0
  v0 := Tryz.zeroValue0
  t3 := Tryz.underlying3
  a3 := Tryz.isAgg3
  z3 := Tryz.sizeOf3
  v3 := Tryz.zeroValue3
  t4 := Tryz.underlying4
  a4 := Tryz.isAgg4
  z4 := Tryz.sizeOf4
  v4 := Tryz.zeroValue4
  t9 := Tryz.underlying9
  a9 := Tryz.isAgg9
  z9 := Tryz.sizeOf9
  v9 := Tryz.zeroValue9
  t20 := Tryz.underlying20
  a20 := Tryz.isAgg20
  z20 := Tryz.sizeOf20
  v20 := Tryz.zeroValue20
  t31 := Tryz.underlying27
  a31 := Tryz.isAgg27
  z31 := Tryz.sizeOf27
  v31 := Tryz.zeroValue27
  t37 := Tryz.underlying22
  a37 := Tryz.isAgg22
  z37 := Tryz.sizeOf22
  v37 := Tryz.zeroValue22
  t70 := Tryz.underlying191
  a70 := Tryz.isAgg191
  z70 := Tryz.sizeOf191
  v70 := Tryz.zeroValue191
  t72 := Tryz.underlying193
  a72 := Tryz.isAgg193
  z72 := Tryz.sizeOf193
  v72 := Tryz.zeroValue193
  t75 := Tryz.underlying196
  a75 := Tryz.isAgg196
  z75 := Tryz.sizeOf196
  v75 := Tryz.zeroValue196
  t76 := Tryz.underlying197
  a76 := Tryz.isAgg197
  z76 := Tryz.sizeOf197
  v76 := Tryz.zeroValue197
  t127 := Tryz.underlying210
  a127 := Tryz.isAgg210
  z127 := Tryz.sizeOf210
  v127 := Tryz.zeroValue210
  t164 := Tryz.underlying215
  a164 := Tryz.isAgg215
  z164 := Tryz.sizeOf215
  v164 := Tryz.zeroValue215 }
theorem Tryz.Builder_Extra_156 : Builder.Extra Tryz.prog Tryz.lays156_ren := {
  sizeBuilder := by kernel_rfl
  liesBuilder := by kernel_rfl
  t5 := Tryz.underlying5
  a5 := Tryz.isAgg5
  z5 := Tryz.sizeOf5
  v5 := Tryz.zeroValue5
  infoByte := by kernel_rfl
  cellsByte := by kernel_rfl
  sizeByte := by kernel_rfl
  neB5 := by decide }
open Go.RowKit Go.Lib in
theorem Tryz.strings_Join (bk o c : Nat) (xs : List ByteArray) (sep : ByteArray) (w : World) (hcells : ∀ (j : Nat) x, xs[j]? = some x → w.cell? ⟨bk, o + j, none⟩ = some (.string x)) (hbk : bk < w.heap.size) (hN : xs.length ≤ 140737488355328) (hcap : xs.length ≤ c) (hlen : (Lib.join (xs.map (·.data.toList)) sep.data.toList).length ≤ 140737488355328) :
    Calls Tryz.prog 169 #[.slice (some ⟨bk, o, none⟩) xs.length c, .string sep] w fun e w' => e = .returned (.string ⟨(Lib.join (xs.map (·.data.toList)) sep.data.toList).toArray⟩) ∧ Below w.heap.size w w' := Any.strings_Join Tryz.lays156 Tryz.Builder_Extra_156 bk o c xs sep w hcells hbk hN hcap hlen
end Go.Proofs
namespace Go.Proofs
open Go.Shelf
def Tryz.lays172_ren : Go.Shelf.Ren := ⟨fun | 172 => 194 | 244 => 209 | 245 => 210 | 247 => 218 | 279 => 219 | 280 => 220 | 281 => 221 | 282 => 222 | 287 => 229 | 316 => 230 | 171 => 62 | 205 => 231 | 321 => 234 | 322 => 235 | 243 => 114 | 246 => 168 | 283 => 187 | 284 => 188 | 285 => 189 | 286 => 190 | 129 => 203 | 317 => 202 | 318 => 204 | 319 => 205 | 320 => 206 | 337 => 214 | 338 => 215 | n => n, fun | 9 => 9 | 3 => 3 | 75 => 196 | 76 => 197 | 4 => 4 | 5 => 5 | 167 => 218 | 37 => 22 | 0 => 0 | 85 => 219 | 2 => 2 | 168 => 221 | 53 => 186 | 175 => 227 | 46 => 208 | 210 => 230 | 127 => 210 | 145 => 241 | 143 => 239 | 21 => 21 | 171 => 185 | 173 => 189 | 212 => 205 | 51 => 206 | 20 => 20 | 213 => 207 | 232 => 225 | 233 => 226 | 80 => 199 | n => n, fun | 15 => 4 | 16 => 5 | 17 => 0 | 18 => 2 | 19 => 3 | n => n⟩
theorem Tryz.lays172 : Go.Proofs.Lays.n172 Tryz.prog Tryz.lays172_ren := {
  mixed := by kernel_rfl
  f129 := Tryz.func203.trans (congrArg some (by kernel_rfl))
  f171 := Tryz.func62.trans (congrArg some (by kernel_rfl))
  f172 := Tryz.func194.trans (congrArg some (by kernel_rfl))
  f205 := Tryz.func231.trans (congrArg some (by kernel_rfl))
  f243 := Tryz.func114.trans (congrArg some (by kernel_rfl))
  f244 := Tryz.func209.trans (congrArg some (by kernel_rfl))
  f245 := Tryz.func210.trans (congrArg some (by kernel_rfl))
  f246 := Tryz.func168.trans (congrArg some (by kernel_rfl))
  f247 := Tryz.func218.trans (congrArg some (by kernel_rfl))
  f279 := Tryz.func219.trans (congrArg some (by kernel_rfl))
  f280 := Tryz.func220.trans (congrArg some (by kernel_rfl))
  f281 := Tryz.func221.trans (congrArg some (by kernel_rfl))
  f282 := Tryz.func222.trans (congrArg some (by kernel_rfl))
  f283 := Tryz.func187.trans (congrArg some (by kernel_rfl))
  f284 := Tryz.func188.trans (congrArg some (by kernel_rfl))
  f285 := Tryz.func189.trans (congrArg some (by kernel_rfl))
  f286 := Tryz.func190.trans (congrArg some (by kernel_rfl))
  f287 := Tryz.func229.trans (congrArg some (by kernel_rfl))
  f316 := Tryz.func230.trans (congrArg some (by kernel_rfl))
  f317 := Tryz.func202.trans (congrArg some (by kernel_rfl))
  f318 := Tryz.func204.trans (congrArg some (by kernel_rfl))
  f319 := Tryz.func205.trans (congrArg some (by kernel_rfl))
  f320 := Tryz.func206.trans (congrArg some (by kernel_rfl))
  f321 := Tryz.func234.trans (congrArg some (by kernel_rfl))
  f322 := Tryz.func235.trans (congrArg some (by kernel_rfl))
  f337 := Tryz.func214.trans (congrArg some (by kernel_rfl))
  f338 := Tryz.func215.trans (congrArg some (by kernel_rfl))
  t0 := Tryz.underlying0
  a0 := Tryz.isAgg0
  z0 := Tryz.sizeOf0
  v0 := Tryz.zeroValue0
  t2 := Tryz.underlying2
  a2 := Tryz.isAgg2
  z2 := Tryz.sizeOf2
  v2 := Tryz.zeroValue2
  t3 := Tryz.underlying3
  a3 := Tryz.isAgg3
  z3 := Tryz.sizeOf3
  v3 := Tryz.zeroValue3
  t4 := Tryz.underlying4
  a4 := Tryz.isAgg4
  z4 := Tryz.sizeOf4
  v4 := Tryz.zeroValue4
  t5 := Tryz.underlying5
  a5 := Tryz.isAgg5
  z5 := Tryz.sizeOf5
  v5 := Tryz.zeroValue5
  t9 := Tryz.underlying9
  a9 := Tryz.isAgg9
  z9 := Tryz.sizeOf9
  v9 := Tryz.zeroValue9
  t20 := Tryz.underlying20
  a20 := Tryz.isAgg20
  z20 := Tryz.sizeOf20
  v20 := Tryz.zeroValue20
  t21 := Tryz.underlying21
  a21 := Tryz.isAgg21
  z21 := Tryz.sizeOf21
  v21 := Tryz.zeroValue21
  t37 := Tryz.underlying22
  a37 := Tryz.isAgg22
  z37 := Tryz.sizeOf22
  v37 := Tryz.zeroValue22
  t46 := Tryz.underlying208
  a46 := Tryz.isAgg208
  z46 := Tryz.sizeOf208
  v46 := Tryz.zeroValue208
  t51 := Tryz.underlying206
  a51 := Tryz.isAgg206
  z51 := Tryz.sizeOf206
  v51 := Tryz.zeroValue206
  t53 := Tryz.underlying186
  a53 := Tryz.isAgg186
  z53 := Tryz.sizeOf186
  v53 := Tryz.zeroValue186
  t75 := Tryz.underlying196
  a75 := Tryz.isAgg196
  z75 := Tryz.sizeOf196
  v75 := Tryz.zeroValue196
  t76 := Tryz.underlying197
  a76 := Tryz.isAgg197
  z76 := Tryz.sizeOf197
  v76 := Tryz.zeroValue197
  t85 := Tryz.underlying219
  a85 := Tryz.isAgg219
  z85 := Tryz.sizeOf219
  v85 := Tryz.zeroValue219
  t127 := Tryz.underlying210
  a127 := Tryz.isAgg210
  z127 := Tryz.sizeOf210
  v127 := Tryz.zeroValue210
  t143 := Tryz.underlying239
  a143 := Tryz.isAgg239
  z143 := Tryz.sizeOf239
  v143 := Tryz.zeroValue239
  t145 := Tryz.underlying241
  a145 := Tryz.isAgg241
  z145 := Tryz.sizeOf241
  v145 := Tryz.zeroValue241
  t167 := Tryz.underlying218
  a167 := Tryz.isAgg218
  z167 := Tryz.sizeOf218
  v167 := Tryz.zeroValue218
  t168 := Tryz.underlying221
  a168 := Tryz.isAgg221
  z168 := Tryz.sizeOf221
  v168 := Tryz.zeroValue221
  t171 := Tryz.underlying185
  a171 := Tryz.isAgg185
  z171 := Tryz.sizeOf185
  v171 := Tryz.zeroValue185
  t173 := Tryz.underlying189
  a173 := Tryz.isAgg189
  z173 := Tryz.sizeOf189
  v173 := Tryz.zeroValue189
  t175 := Tryz.underlying227
  a175 := Tryz.isAgg227
  z175 := Tryz.sizeOf227
  v175 := Tryz.zeroValue227
  t210 := Tryz.underlying230
  a210 := Tryz.isAgg230
  z210 := Tryz.sizeOf230
  v210 := Tryz.zeroValue230
  t212 := Tryz.underlying205
  a212 := Tryz.isAgg205
  z212 := Tryz.sizeOf205
  v212 := Tryz.zeroValue205
  t213 := Tryz.underlying207
  a213 := Tryz.isAgg207
  z213 := Tryz.sizeOf207
  t232 := Tryz.underlying225
  a232 := Tryz.isAgg225
  z232 := Tryz.sizeOf225
  v232 := Tryz.zeroValue225
  t233 := Tryz.underlying226
  a233 := Tryz.isAgg226
  z233 := Tryz.sizeOf226
  v233 := Tryz.zeroValue226
  g15 := by kernel_rfl
  g16 := by kernel_rfl
  g17 := by kernel_rfl
  g18 := by kernel_rfl
  g19 := by kernel_rfl }
open Go.RowKit in
theorem Tryz.strconv_Atoi (s : ByteArray) (n : Int) (hl : s.size ≤ 18) (h : Lib.atoi s.data.toList = some n) (w : World) :
    Calls Tryz.prog 194 #[.string s] w fun e w' => e = .returned (.tuple #[.int .i64 n, .nilIface]) ∧ ∃ t, w' = Lib.bytesWorld w 5 t := Any.strconv_Atoi Tryz.lays172 s n hl h w
end Go.Proofs
namespace Kw
open Go Go.Proofs
def LexAt (i : Nat) : Prop := ∀ (fn : Func) (c : Code), Tryz.prog.funcs[i]? = some fn → fn.body = some c → lexAll c = true
theorem lex_at {i : Nat} {g : Func} (hf : Tryz.prog.funcs[i]? = some g) (hl : lexAll (body g) = true) : LexAt i := fun fn c h1 h2 => by
  rw [hf] at h1; cases h1; unfold body at hl; rw [h2] at hl; exact hl
theorem lex_3 : LexAt 3 := lex_at Tryz.func3 (by kernel_rfl)
theorem lex_4 : LexAt 4 := lex_at Tryz.func4 (by kernel_rfl)
theorem lex_5 : LexAt 5 := lex_at Tryz.func5 (by kernel_rfl)
theorem lex_6 : LexAt 6 := lex_at Tryz.func6 (by kernel_rfl)
theorem lex_7 : LexAt 7 := lex_at Tryz.func7 (by kernel_rfl)
theorem lex_8 : LexAt 8 := lex_at Tryz.func8 (by kernel_rfl)
theorem lex_9 : LexAt 9 := lex_at Tryz.func9 (by kernel_rfl)
theorem lex_10 : LexAt 10 := lex_at Tryz.func10 (by kernel_rfl)
theorem lex_11 : LexAt 11 := lex_at Tryz.func11 (by kernel_rfl)
theorem lex_12 : LexAt 12 := lex_at Tryz.func12 (by kernel_rfl)
theorem lex_13 : LexAt 13 := lex_at Tryz.func13 (by kernel_rfl)
theorem lex_14 : LexAt 14 := lex_at Tryz.func14 (by kernel_rfl)
theorem lex_15 : LexAt 15 := lex_at Tryz.func15 (by kernel_rfl)
theorem lex_16 : LexAt 16 := lex_at Tryz.func16 (by kernel_rfl)
theorem lex_17 : LexAt 17 := lex_at Tryz.func17 (by kernel_rfl)
theorem lex_18 : LexAt 18 := lex_at Tryz.func18 (by kernel_rfl)
theorem lex_19 : LexAt 19 := lex_at Tryz.func19 (by kernel_rfl)
theorem lex_20 : LexAt 20 := lex_at Tryz.func20 (by kernel_rfl)
theorem lex_21 : LexAt 21 := lex_at Tryz.func21 (by kernel_rfl)
theorem lex_22 : LexAt 22 := lex_at Tryz.func22 (by kernel_rfl)
theorem lex_23 : LexAt 23 := lex_at Tryz.func23 (by kernel_rfl)
theorem lex_24 : LexAt 24 := lex_at Tryz.func24 (by kernel_rfl)
theorem lex_25 : LexAt 25 := lex_at Tryz.func25 (by kernel_rfl)
theorem lex_26 : LexAt 26 := lex_at Tryz.func26 (by kernel_rfl)
theorem lex_27 : LexAt 27 := lex_at Tryz.func27 (by kernel_rfl)
theorem lex_28 : LexAt 28 := lex_at Tryz.func28 (by kernel_rfl)
theorem lex_29 : LexAt 29 := lex_at Tryz.func29 (by kernel_rfl)
theorem lex_30 : LexAt 30 := lex_at Tryz.func30 (by kernel_rfl)
theorem lex_31 : LexAt 31 := lex_at Tryz.func31 (by kernel_rfl)
theorem lex_32 : LexAt 32 := lex_at Tryz.func32 (by kernel_rfl)
theorem lex_33 : LexAt 33 := lex_at Tryz.func33 (by kernel_rfl)
theorem lex_34 : LexAt 34 := lex_at Tryz.func34 (by kernel_rfl)
theorem lex_35 : LexAt 35 := lex_at Tryz.func35 (by kernel_rfl)
theorem lex_36 : LexAt 36 := lex_at Tryz.func36 (by kernel_rfl)
theorem lex_37 : LexAt 37 := lex_at Tryz.func37 (by kernel_rfl)
theorem lex_38 : LexAt 38 := lex_at Tryz.func38 (by kernel_rfl)
theorem lex_39 : LexAt 39 := lex_at Tryz.func39 (by kernel_rfl)
theorem lex_40 : LexAt 40 := lex_at Tryz.func40 (by kernel_rfl)
theorem lex_41 : LexAt 41 := lex_at Tryz.func41 (by kernel_rfl)
theorem lex_42 : LexAt 42 := lex_at Tryz.func42 (by kernel_rfl)
theorem lex_43 : LexAt 43 := lex_at Tryz.func43 (by kernel_rfl)
theorem lex_44 : LexAt 44 := lex_at Tryz.func44 (by kernel_rfl)
theorem lex_47 : LexAt 47 := lex_at Tryz.func47 (by kernel_rfl)
theorem lex_48 : LexAt 48 := lex_at Tryz.func48 (by kernel_rfl)
theorem lex_49 : LexAt 49 := lex_at Tryz.func49 (by kernel_rfl)
theorem lex_50 : LexAt 50 := lex_at Tryz.func50 (by kernel_rfl)
theorem lex_51 : LexAt 51 := lex_at Tryz.func51 (by kernel_rfl)
theorem lex_52 : LexAt 52 := lex_at Tryz.func52 (by kernel_rfl)
theorem lex_53 : LexAt 53 := lex_at Tryz.func53 (by kernel_rfl)
theorem lex_54 : LexAt 54 := lex_at Tryz.func54 (by kernel_rfl)
theorem lex_55 : LexAt 55 := lex_at Tryz.func55 (by kernel_rfl)
theorem lex_56 : LexAt 56 := lex_at Tryz.func56 (by kernel_rfl)
theorem lex_57 : LexAt 57 := lex_at Tryz.func57 (by kernel_rfl)
theorem lex_58 : LexAt 58 := lex_at Tryz.func58 (by kernel_rfl)
theorem lex_59 : LexAt 59 := lex_at Tryz.func59 (by kernel_rfl)
theorem lex_60 : LexAt 60 := lex_at Tryz.func60 (by kernel_rfl)
theorem lex_61 : LexAt 61 := lex_at Tryz.func61 (by kernel_rfl)
theorem lex_63 : LexAt 63 := lex_at Tryz.func63 (by kernel_rfl)
theorem lex_64 : LexAt 64 := lex_at Tryz.func64 (by kernel_rfl)
theorem lex_65 : LexAt 65 := lex_at Tryz.func65 (by kernel_rfl)
theorem lex_66 : LexAt 66 := lex_at Tryz.func66 (by kernel_rfl)
theorem lex_67 : LexAt 67 := lex_at Tryz.func67 (by kernel_rfl)
theorem lex_68 : LexAt 68 := lex_at Tryz.func68 (by kernel_rfl)
theorem lex_69 : LexAt 69 := lex_at Tryz.func69 (by kernel_rfl)
theorem lex_70 : LexAt 70 := lex_at Tryz.func70 (by kernel_rfl)
theorem lex_71 : LexAt 71 := lex_at Tryz.func71 (by kernel_rfl)
theorem lex_72 : LexAt 72 := lex_at Tryz.func72 (by kernel_rfl)
theorem lex_73 : LexAt 73 := lex_at Tryz.func73 (by kernel_rfl)
theorem lex_74 : LexAt 74 := lex_at Tryz.func74 (by kernel_rfl)
theorem lex_75 : LexAt 75 := lex_at Tryz.func75 (by kernel_rfl)
theorem lex_76 : LexAt 76 := lex_at Tryz.func76 (by kernel_rfl)
theorem lex_77 : LexAt 77 := lex_at Tryz.func77 (by kernel_rfl)
theorem lex_78 : LexAt 78 := lex_at Tryz.func78 (by kernel_rfl)
theorem lex_79 : LexAt 79 := lex_at Tryz.func79 (by kernel_rfl)
theorem lex_80 : LexAt 80 := lex_at Tryz.func80 (by kernel_rfl)
theorem lex_93 : LexAt 93 := lex_at Tryz.func93 (by kernel_rfl)
theorem lex_94 : LexAt 94 := lex_at Tryz.func94 (by kernel_rfl)
theorem lex_95 : LexAt 95 := lex_at Tryz.func95 (by kernel_rfl)
theorem lex_96 : LexAt 96 := lex_at Tryz.func96 (by kernel_rfl)
theorem lex_97 : LexAt 97 := lex_at Tryz.func97 (by kernel_rfl)
theorem lex_98 : LexAt 98 := lex_at Tryz.func98 (by kernel_rfl)
theorem lex_99 : LexAt 99 := lex_at Tryz.func99 (by kernel_rfl)
theorem lex_100 : LexAt 100 := lex_at Tryz.func100 (by kernel_rfl)
theorem lex_101 : LexAt 101 := lex_at Tryz.func101 (by kernel_rfl)
theorem lex_102 : LexAt 102 := lex_at Tryz.func102 (by kernel_rfl)
theorem lex_103 : LexAt 103 := lex_at Tryz.func103 (by kernel_rfl)
theorem lex_104 : LexAt 104 := lex_at Tryz.func104 (by kernel_rfl)
theorem lex_105 : LexAt 105 := lex_at Tryz.func105 (by kernel_rfl)
theorem lex_107 : LexAt 107 := lex_at Tryz.func107 (by kernel_rfl)
theorem lex_108 : LexAt 108 := lex_at Tryz.func108 (by kernel_rfl)
theorem lex_109 : LexAt 109 := lex_at Tryz.func109 (by kernel_rfl)
theorem lex_110 : LexAt 110 := lex_at Tryz.func110 (by kernel_rfl)
theorem lex_111 : LexAt 111 := lex_at Tryz.func111 (by kernel_rfl)
theorem lex_112 : LexAt 112 := lex_at Tryz.func112 (by kernel_rfl)
theorem lex_113 : LexAt 113 := lex_at Tryz.func113 (by kernel_rfl)
theorem lex_115 : LexAt 115 := lex_at Tryz.func115 (by kernel_rfl)
theorem lex_116 : LexAt 116 := lex_at Tryz.func116 (by kernel_rfl)
theorem lex_117 : LexAt 117 := lex_at Tryz.func117 (by kernel_rfl)
theorem lex_118 : LexAt 118 := lex_at Tryz.func118 (by kernel_rfl)
theorem lex_119 : LexAt 119 := lex_at Tryz.func119 (by kernel_rfl)
theorem lex_120 : LexAt 120 := lex_at Tryz.func120 (by kernel_rfl)
theorem lex_121 : LexAt 121 := lex_at Tryz.func121 (by kernel_rfl)
theorem lex_122 : LexAt 122 := lex_at Tryz.func122 (by kernel_rfl)
theorem lex_123 : LexAt 123 := lex_at Tryz.func123 (by kernel_rfl)
theorem lex_124 : LexAt 124 := lex_at Tryz.func124 (by kernel_rfl)
theorem lex_125 : LexAt 125 := lex_at Tryz.func125 (by kernel_rfl)
theorem lex_126 : LexAt 126 := lex_at Tryz.func126 (by kernel_rfl)
theorem lex_127 : LexAt 127 := lex_at Tryz.func127 (by kernel_rfl)
theorem lex_128 : LexAt 128 := lex_at Tryz.func128 (by kernel_rfl)
theorem lex_129 : LexAt 129 := lex_at Tryz.func129 (by kernel_rfl)
theorem lex_148 : LexAt 148 := lex_at Tryz.func148 (by kernel_rfl)
theorem lex_149 : LexAt 149 := lex_at Tryz.func149 (by kernel_rfl)
theorem lex_150 : LexAt 150 := lex_at Tryz.func150 (by kernel_rfl)
theorem lex_151 : LexAt 151 := lex_at Tryz.func151 (by kernel_rfl)
theorem lex_152 : LexAt 152 := lex_at Tryz.func152 (by kernel_rfl)
theorem lex_153 : LexAt 153 := lex_at Tryz.func153 (by kernel_rfl)
theorem lex_154 : LexAt 154 := lex_at Tryz.func154 (by kernel_rfl)
theorem lex_155 : LexAt 155 := lex_at Tryz.func155 (by kernel_rfl)
theorem lex_156 : LexAt 156 := lex_at Tryz.func156 (by kernel_rfl)
theorem lex_157 : LexAt 157 := lex_at Tryz.func157 (by kernel_rfl)
theorem lex_158 : LexAt 158 := lex_at Tryz.func158 (by kernel_rfl)
theorem lex_159 : LexAt 159 := lex_at Tryz.func159 (by kernel_rfl)
theorem lex_160 : LexAt 160 := lex_at Tryz.func160 (by kernel_rfl)
theorem lex_162 : LexAt 162 := lex_at Tryz.func162 (by kernel_rfl)
theorem lex_163 : LexAt 163 := lex_at Tryz.func163 (by kernel_rfl)
theorem lex_164 : LexAt 164 := lex_at Tryz.func164 (by kernel_rfl)
theorem lex_165 : LexAt 165 := lex_at Tryz.func165 (by kernel_rfl)
theorem lex_167 : LexAt 167 := lex_at Tryz.func167 (by kernel_rfl)
theorem lex_170 : LexAt 170 := lex_at Tryz.func170 (by kernel_rfl)
theorem lex_171 : LexAt 171 := lex_at Tryz.func171 (by kernel_rfl)
theorem lex_176 : LexAt 176 := lex_at Tryz.func176 (by kernel_rfl)
theorem lex_177 : LexAt 177 := lex_at Tryz.func177 (by kernel_rfl)
theorem lex_178 : LexAt 178 := lex_at Tryz.func178 (by kernel_rfl)
theorem lex_179 : LexAt 179 := lex_at Tryz.func179 (by kernel_rfl)
theorem lex_180 : LexAt 180 := lex_at Tryz.func180 (by kernel_rfl)
theorem lex_181 : LexAt 181 := lex_at Tryz.func181 (by kernel_rfl)
theorem lex_185 : LexAt 185 := lex_at Tryz.func185 (by kernel_rfl)
theorem lex_195 : LexAt 195 := lex_at Tryz.func195 (by kernel_rfl)
theorem lex_all : ∀ i ∈ okL, LexAt i := List.forall_mem_cons.2 ⟨lex_3, List.forall_mem_cons.2 ⟨lex_4, List.forall_mem_cons.2 ⟨lex_5, List.forall_mem_cons.2 ⟨lex_6, List.forall_mem_cons.2 ⟨lex_7, List.forall_mem_cons.2 ⟨lex_8, List.forall_mem_cons.2 ⟨lex_9, List.forall_mem_cons.2 ⟨lex_10, List.forall_mem_cons.2 ⟨lex_11, List.forall_mem_cons.2 ⟨lex_12, List.forall_mem_cons.2 ⟨lex_13, List.forall_mem_cons.2 ⟨lex_14, List.forall_mem_cons.2 ⟨lex_15, List.forall_mem_cons.2 ⟨lex_16, List.forall_mem_cons.2 ⟨lex_17, List.forall_mem_cons.2 ⟨lex_18, List.forall_mem_cons.2 ⟨lex_19, List.forall_mem_cons.2 ⟨lex_20, List.forall_mem_cons.2 ⟨lex_21, List.forall_mem_cons.2 ⟨lex_22, List.forall_mem_cons.2 ⟨lex_23, List.forall_mem_cons.2 ⟨lex_24, List.forall_mem_cons.2 ⟨lex_25, List.forall_mem_cons.2 ⟨lex_26, List.forall_mem_cons.2 ⟨lex_27, List.forall_mem_cons.2 ⟨lex_28, List.forall_mem_cons.2 ⟨lex_29, List.forall_mem_cons.2 ⟨lex_30, List.forall_mem_cons.2 ⟨lex_31, List.forall_mem_cons.2 ⟨lex_32, List.forall_mem_cons.2 ⟨lex_33, List.forall_mem_cons.2 ⟨lex_34, List.forall_mem_cons.2 ⟨lex_35, List.forall_mem_cons.2 ⟨lex_36, List.forall_mem_cons.2 ⟨lex_37, List.forall_mem_cons.2 ⟨lex_38, List.forall_mem_cons.2 ⟨lex_39, List.forall_mem_cons.2 ⟨lex_40, List.forall_mem_cons.2 ⟨lex_41, List.forall_mem_cons.2 ⟨lex_42, List.forall_mem_cons.2 ⟨lex_43, List.forall_mem_cons.2 ⟨lex_44, List.forall_mem_cons.2 ⟨lex_47, List.forall_mem_cons.2 ⟨lex_48, List.forall_mem_cons.2 ⟨lex_49, List.forall_mem_cons.2 ⟨lex_50, List.forall_mem_cons.2 ⟨lex_51, List.forall_mem_cons.2 ⟨lex_52, List.forall_mem_cons.2 ⟨lex_53, List.forall_mem_cons.2 ⟨lex_54, List.forall_mem_cons.2 ⟨lex_55, List.forall_mem_cons.2 ⟨lex_56, List.forall_mem_cons.2 ⟨lex_57, List.forall_mem_cons.2 ⟨lex_58, List.forall_mem_cons.2 ⟨lex_59, List.forall_mem_cons.2 ⟨lex_60, List.forall_mem_cons.2 ⟨lex_61, List.forall_mem_cons.2 ⟨lex_63, List.forall_mem_cons.2 ⟨lex_64, List.forall_mem_cons.2 ⟨lex_65, List.forall_mem_cons.2 ⟨lex_66, List.forall_mem_cons.2 ⟨lex_67, List.forall_mem_cons.2 ⟨lex_68, List.forall_mem_cons.2 ⟨lex_69, List.forall_mem_cons.2 ⟨lex_70, List.forall_mem_cons.2 ⟨lex_71, List.forall_mem_cons.2 ⟨lex_72, List.forall_mem_cons.2 ⟨lex_73, List.forall_mem_cons.2 ⟨lex_74, List.forall_mem_cons.2 ⟨lex_75, List.forall_mem_cons.2 ⟨lex_76, List.forall_mem_cons.2 ⟨lex_77, List.forall_mem_cons.2 ⟨lex_78, List.forall_mem_cons.2 ⟨lex_79, List.forall_mem_cons.2 ⟨lex_80, List.forall_mem_cons.2 ⟨lex_93, List.forall_mem_cons.2 ⟨lex_94, List.forall_mem_cons.2 ⟨lex_95, List.forall_mem_cons.2 ⟨lex_96, List.forall_mem_cons.2 ⟨lex_97, List.forall_mem_cons.2 ⟨lex_98, List.forall_mem_cons.2 ⟨lex_99, List.forall_mem_cons.2 ⟨lex_100, List.forall_mem_cons.2 ⟨lex_101, List.forall_mem_cons.2 ⟨lex_102, List.forall_mem_cons.2 ⟨lex_103, List.forall_mem_cons.2 ⟨lex_104, List.forall_mem_cons.2 ⟨lex_105, List.forall_mem_cons.2 ⟨lex_107, List.forall_mem_cons.2 ⟨lex_108, List.forall_mem_cons.2 ⟨lex_109, List.forall_mem_cons.2 ⟨lex_110, List.forall_mem_cons.2 ⟨lex_111, List.forall_mem_cons.2 ⟨lex_112, List.forall_mem_cons.2 ⟨lex_113, List.forall_mem_cons.2 ⟨lex_115, List.forall_mem_cons.2 ⟨lex_116, List.forall_mem_cons.2 ⟨lex_117, List.forall_mem_cons.2 ⟨lex_118, List.forall_mem_cons.2 ⟨lex_119, List.forall_mem_cons.2 ⟨lex_120, List.forall_mem_cons.2 ⟨lex_121, List.forall_mem_cons.2 ⟨lex_122, List.forall_mem_cons.2 ⟨lex_123, List.forall_mem_cons.2 ⟨lex_124, List.forall_mem_cons.2 ⟨lex_125, List.forall_mem_cons.2 ⟨lex_126, List.forall_mem_cons.2 ⟨lex_127, List.forall_mem_cons.2 ⟨lex_128, List.forall_mem_cons.2 ⟨lex_129, List.forall_mem_cons.2 ⟨lex_148, List.forall_mem_cons.2 ⟨lex_149, List.forall_mem_cons.2 ⟨lex_150, List.forall_mem_cons.2 ⟨lex_151, List.forall_mem_cons.2 ⟨lex_152, List.forall_mem_cons.2 ⟨lex_153, List.forall_mem_cons.2 ⟨lex_154, List.forall_mem_cons.2 ⟨lex_155, List.forall_mem_cons.2 ⟨lex_156, List.forall_mem_cons.2 ⟨lex_157, List.forall_mem_cons.2 ⟨lex_158, List.forall_mem_cons.2 ⟨lex_159, List.forall_mem_cons.2 ⟨lex_160, List.forall_mem_cons.2 ⟨lex_162, List.forall_mem_cons.2 ⟨lex_163, List.forall_mem_cons.2 ⟨lex_164, List.forall_mem_cons.2 ⟨lex_165, List.forall_mem_cons.2 ⟨lex_167, List.forall_mem_cons.2 ⟨lex_170, List.forall_mem_cons.2 ⟨lex_171, List.forall_mem_cons.2 ⟨lex_176, List.forall_mem_cons.2 ⟨lex_177, List.forall_mem_cons.2 ⟨lex_178, List.forall_mem_cons.2 ⟨lex_179, List.forall_mem_cons.2 ⟨lex_180, List.forall_mem_cons.2 ⟨lex_181, List.forall_mem_cons.2 ⟨lex_185, List.forall_mem_cons.2 ⟨lex_195, fun _ h => absurd h List.not_mem_nil⟩⟩⟩⟩⟩⟩⟩⟩⟩⟩⟩⟩⟩⟩⟩⟩⟩⟩⟩⟩⟩⟩⟩⟩⟩⟩⟩⟩⟩⟩⟩⟩⟩⟩⟩⟩⟩⟩⟩⟩⟩⟩⟩⟩⟩⟩⟩⟩⟩⟩⟩⟩⟩⟩⟩⟩⟩⟩⟩⟩⟩⟩⟩⟩⟩⟩⟩⟩⟩⟩⟩⟩⟩⟩⟩⟩⟩⟩⟩⟩⟩⟩⟩⟩⟩⟩⟩⟩⟩⟩⟩⟩⟩⟩⟩⟩⟩⟩⟩⟩⟩⟩⟩⟩⟩⟩⟩⟩⟩⟩⟩⟩⟩⟩⟩⟩⟩⟩⟩⟩⟩⟩⟩⟩⟩⟩⟩⟩⟩⟩⟩⟩⟩⟩⟩⟩⟩⟩
theorem name_all : (Tryz.prog.funcs.toList.all fun fn => !(fn.name == "runtime.NumGoroutine")) = true := by kernel_rfl
theorem name_ok (f : FuncId) (fn : Func) (h : Tryz.prog.funcs[f]? = some fn) : (fn.name == "runtime.NumGoroutine") = false := by
  have hm : fn ∈ Tryz.prog.funcs.toList := by
    rw [← Array.getElem?_toList] at h; exact List.mem_of_getElem? h
  have := List.all_eq_true.1 name_all fn hm
  simpa using this
theorem mixed : Tryz.prog.follows .mixedOrders = true := by kernel_rfl
theorem lex_ok (f : FuncId) (fn : Func) (c : Code) (h1 : E.P.funcs[f]? = some fn) (h2 : fn.body = some c) (h3 : E.okf f = true) : lexAll c = true := lex_all f (List.contains_iff_mem.1 h3) fn c h1 h2
end Kw
namespace Kw
open Go Go.RowKit
theorem one_arg {w : World} {prot : Nat → Prop} {vals : Array Value} {m : MV} (hv : Rl (fun v m => SV w prot v m) vals.toList [m]) : ∃ v, vals = #[v] ∧ SV w prot v m := by
  obtain ⟨l⟩ := vals
  change Rl _ l _ at hv
  cases hv with
  | cons h1 h2 => cases h2; exact ⟨_, rfl, h1⟩
theorem two_arg {w : World} {prot : Nat → Prop} {vals : Array Value} {m n : MV} (hv : Rl (fun v m => SV w prot v m) vals.toList [m, n]) : ∃ v u, vals = #[v, u] ∧ SV w prot v m ∧ SV w prot u n := by
  obtain ⟨l⟩ := vals
  change Rl _ l _ at hv
  cases hv with
  | cons h1 h2 => cases h2 with | cons h3 h4 => cases h4; exact ⟨_, _, rfl, h1, h3⟩
theorem clip_ok {P : Program} {K : FuncId} (enter : ∀ v w, (callFunc K #[v]).run P w = .ok (.enter K #[v]) w)
    (hs : ∀ (a : Addr) (n c : Nat), n ≤ c → ∀ w, Calls P K #[.slice (some a) n c] w fun e w' => e = .returned (.slice (some a) n n) ∧ w' = w)
    (hn : ∀ (c : Nat) (w : World), Calls P K #[.slice none 0 c] w fun e w' => e = .returned (.slice none 0 0) ∧ w' = w) :
    RunOk P fun f' args imps => if f' = K then (clipQ args).map fun m => (m, imps) else none := by
  refine ext_ok (q := clipQ) (fun args m h => ?_) fun args m h vals w prot hp hv => ?_
  · unfold clipQ at h
    split at h
    · rfl
    · cases h
  unfold clipQ at h
  split at h
  case h_2 => cases h
  cases h
  obtain ⟨v, e, hsv⟩ := one_arg hv
  subst e
  refine upon_calls (enter v w) ?_
  cases hsv with
  | @sl a n c rows sz vf hl hc hrow had hsv =>
    cases a with
    | none =>
      have h0 : n = 0 := by
        by_cases h0 : 0 < n
        · obtain ⟨ad, e, _⟩ := had h0; cases e
        · omega
      subst h0
      refine (hn c w).mono fun e w' ⟨he, hw⟩ => ⟨_, he, .one ?_ rfl, by rw [hw]; exact Below.refl _ w⟩
      subst hw
      exact .sl sz vf hl (Nat.le_refl _) hrow (fun h => absurd h (Nat.lt_irrefl 0)) hsv
    | some ad =>
      refine (hs ad n c hc w).mono fun e w' ⟨he, hw⟩ => ⟨_, he, .one ?_ rfl, by rw [hw]; exact Below.refl _ w⟩
      subst hw
      exact .sl sz vf hl (Nat.le_refl _) hrow had hsv
theorem dec_small (n : Int) (h0 : 0 ≤ n) (h1 : n < 100) : (⟨(Lib.decDigits n.toNat).toArray⟩ : ByteArray) = bs (if n < 10 then [(48 + n).toNat.toUInt8] else [(48 + n / 10).toNat.toUInt8, (48 + n % 10).toNat.toUInt8]) := by
  obtain ⟨k, rfl⟩ := Int.eq_ofNat_of_zero_le h0
  rw [Int.toNat_natCast]
  unfold bs
  congr 2
  unfold Lib.decDigits
  by_cases h : k < 10
  · rw [dif_pos h, if_pos (by omega)]
    congr 1
  · rw [dif_neg h, if_neg (by omega)]
    unfold Lib.decDigits
    rw [dif_pos (by omega)]
    have e1 : (48 + (k : Int) / 10).toNat = 48 + k / 10 := by omega
    have e2 : (48 + (k : Int) % 10).toNat = 48 + k % 10 := by omega
    rw [e1, e2]
    rfl
theorem itoa_ok {P : Program} {F : FuncId} (enter : ∀ v w, (callFunc F #[v]).run P w = .ok (.enter F #[v]) w)
    (hc : ∀ (i : Nat), i < 100 → ∀ w : World, Calls P F #[.int .i64 i] w fun e w' => e = .returned (.string ⟨(Lib.decDigits i).toArray⟩) ∧ w' = w) :
    RunOk P fun f' args imps => if f' = F then (itoaQ args).map fun m => (m, imps) else none := by
  refine ext_ok (q := itoaQ) (fun args m h => ?_) fun args m h vals w prot hp hv => ?_
  · unfold itoaQ at h
    split at h
    · rfl
    · cases h
  unfold itoaQ at h
  split at h
  case h_2 => cases h
  rename_i n
  split at h
  case isFalse => cases h
  rename_i hn
  cases h
  obtain ⟨v, e, hsv⟩ := one_arg hv
  subst e
  cases hsv
  refine upon_calls (enter _ w) ?_
  have h := hc n.toNat (by omega) w
  rw [Int.toNat_of_nonneg hn.1, dec_small n hn.1 hn.2] at h
  exact h.mono fun e w' ⟨he, hw⟩ => ⟨_, he, .one (.str _) rfl, by rw [hw]; exact Below.refl _ w⟩
theorem strRows_some : ∀ {rows : List Row} {l : List (List UInt8)}, strRows rows = some l → rows = l.map fun s => [.str (bs s)]
  | [], l, h => by cases h; rfl
  | [] :: _, l, h => by cases h
  | (_ :: _ :: _) :: _, l, h => by simp [strRows] at h
  | [m] :: r, l, h => by
    cases m <;> first | (cases h; done) | skip
    rename_i s
    simp only [strRows] at h
    obtain ⟨t, ht, e⟩ := Option.bind_eq_some_iff.1 h
    cases e
    rw [List.map_cons, ← strRows_some ht, bs_data]
theorem inter_nil : ∀ (l : List (List UInt8)), ([] : List UInt8).intercalate l = l.flatten := by
  intro l
  unfold List.intercalate
  induction l with
  | nil => rfl
  | cons a t ih =>
    cases t with
    | nil => rfl
    | cons b t => simp only [List.intersperse, List.flatten_cons, List.nil_append] at ih ⊢; rw [ih]
theorem join_ok {P : Program} {F : FuncId} (enter : ∀ v u w, (callFunc F #[v, u]).run P w = .ok (.enter F #[v, u]) w)
    (hc : ∀ (bk o c : Nat) (xs : List ByteArray) (sep : ByteArray) (w : World), (∀ (j : Nat) x, xs[j]? = some x → w.cell? ⟨bk, o + j, none⟩ = some (.string x)) → bk < w.heap.size → xs.length ≤ 140737488355328 → xs.length ≤ c → (Lib.join (xs.map (·.data.toList)) sep.data.toList).length ≤ 140737488355328 →
      Calls P F #[.slice (some ⟨bk, o, none⟩) xs.length c, .string sep] w fun e w' => e = .returned (.string ⟨(Lib.join (xs.map (·.data.toList)) sep.data.toList).toArray⟩) ∧ Below w.heap.size w w') :
    RunOk P fun f' args imps => if f' = F then (joinQ args).map fun m => (m, imps) else none := by
  refine ext_ok (q := joinQ) (fun args m h => ?_) fun args m h vals w prot hp hv => ?_
  · unfold joinQ at h
    split at h
    · rfl
    · cases h
  unfold joinQ at h
  split at h
  case h_2 => cases h
  rename_i rows sep
  obtain ⟨l, hl, h⟩ := Option.bind_eq_some_iff.1 h
  split at h
  case isFalse => cases h
  rename_i hh
  obtain ⟨hsep, hlen, htot, hpos⟩ := hh
  cases h
  obtain ⟨v, u, e, hsv, hsu⟩ := two_arg hv
  subst e
  cases hsu
  refine upon_calls (enter _ _ w) ?_
  have hrows := strRows_some hl
  cases hsv with
  | @sl a n c _ sz vf hn hcap hrow had hsv =>
    have hnl : l.length = n := by rw [← hn, hrows, List.length_map]
    obtain ⟨ad, ea, hsp, hpr, hcell⟩ := had (by omega)
    subst ea
    obtain ⟨b, off, spot⟩ := ad
    simp only at hsp
    subst hsp
    have hsz : sz = 1 := by
      have h0 : l[0]? = some (l[0]'hpos) := List.getElem?_eq_getElem hpos
      have h1 : rows[0]? = some [.str (bs (l[0]'hpos))] := by rw [hrows, List.getElem?_map, h0]; rfl
      exact (hrow 0 _ h1).symm
    subst hsz
    have h := hc b off c (l.map bs) sep w (fun j x hj => ?_) (hp _ hpr) (by simp; omega) (by simp; omega) ?_
    · rw [List.length_map, hnl] at h
      refine h.mono fun e w' ⟨he, hB⟩ => ⟨_, he, .one ?_ rfl, hB⟩
      have e1 : (l.map bs).map (·.data.toList) = l := by rw [List.map_map]; exact (List.map_congr_left (fun _ _ => rfl)).trans (List.map_id l)
      rw [e1, hsep]
      unfold Lib.join
      rw [inter_nil]
      exact .str _
    · rw [List.getElem?_map] at hj
      obtain ⟨s, hs, e⟩ := Option.map_eq_some_iff.1 hj
      subst e
      have h1 : rows[j]? = some [.str (bs s)] := by rw [hrows, List.getElem?_map, hs]; rfl
      have h2 := hcell j _ 0 _ h1 rfl
      have h3 := hsv j _ 0 _ h1 rfl
      rw [Nat.mul_one, Nat.add_zero] at h2
      rw [h2]
      generalize vf j 0 = z at h3
      cases h3; rfl
    · have e1 : (l.map bs).map (·.data.toList) = l := by rw [List.map_map]; exact (List.map_congr_left (fun _ _ => rfl)).trans (List.map_id l)
      rw [e1, hsep]
      unfold Lib.join
      rw [inter_nil]; omega
end Kw
namespace Kw
open Go Go.RowKit Go.Proofs Go.Joins
set_option maxRecDepth 100000
theorem clipR_136 : RunOk Tryz.prog fun f' args imps => if f' = 136 then (clipQ args).map fun m => (m, imps) else none :=
  @clip_ok _ 136 (fun v w => run_enter (c := (match Tryz.f136.body with | some c => c | none => .skip)) Tryz.func136 (by kernel_rfl) (by kernel_rfl) _ _) clip_136 clipN_136
theorem clipR_83 : RunOk Tryz.prog fun f' args imps => if f' = 83 then (clipQ args).map fun m => (m, imps) else none :=
  @clip_ok _ 83 (fun v w => run_enter (c := (match Tryz.f83.body with | some c => c | none => .skip)) Tryz.func83 (by kernel_rfl) (by kernel_rfl) _ _) clip_83 clipN_83
theorem itoaR : RunOk Tryz.prog fun f' args imps => if f' = 62 then (itoaQ args).map fun m => (m, imps) else none :=
  @itoa_ok _ 62 (fun v w => run_enter (c := (match Tryz.f62.body with | some c => c | none => .skip)) Tryz.func62 (by kernel_rfl) (by kernel_rfl) _ _) fun i hi w => Tryz.strconv_Itoa_small i hi w
theorem joinR : RunOk Tryz.prog fun f' args imps => if f' = 169 then (joinQ args).map fun m => (m, imps) else none :=
  @join_ok _ 169 (fun v u w => run_enter (c := (match Tryz.f169.body with | some c => c | none => .skip)) Tryz.func169 (by kernel_rfl) (by kernel_rfl) _ _) Tryz.strings_Join
theorem enterAtoi (s : ByteArray) (w : World) : (callFunc 194 #[.string s]).run Tryz.prog w = .ok (.enter 194 #[.string s]) w :=
  run_enter (c := (match Tryz.f194.body with | some c => c | none => .skip)) Tryz.func194 (by kernel_rfl) (by kernel_rfl) _ _
theorem atoiR : RunOk Tryz.prog fun f' args imps => if f' = 194 then (atoiQ args).map fun m => (m, imps) else none := by
  refine ext_ok (q := atoiQ) (fun args m h => ?_) fun args m h vals w prot hp hv => ?_
  · unfold atoiQ at h
    split at h
    · rfl
    · cases h
  · unfold atoiQ at h
    split at h
    · rename_i s
      split at h
      · rename_i hs
        split at h
        · rename_i n hn
          cases h
          obtain ⟨v, e, hsv⟩ := one_arg hv
          subst e
          cases hsv
          refine upon_calls (enterAtoi s w) ((Tryz.strconv_Atoi s n hs hn w).mono fun e w' ⟨he, t, ht⟩ => ⟨_, he, ?_, ?_⟩)
          · exact .tup (.cons (.int _ _) (.cons .ifN .nil))
          · rw [ht]; exact below_bytesWorld _ _ _ _ (Nat.le_refl _)
        · cases h
      · cases h
    · cases h
end Kw
namespace Kw
open Go Go.RowKit Go.Proofs
theorem ext_case {P : Program} {f k : FuncId} {q q' : List MV → Option MV} {r : Option (List MV → Option MV)} (h : (bif f == k then some q' else r) = some q)
    (hk : RunOk P fun f' args imps => if f' = k then (q' args).map fun m => (m, imps) else none) (hr : r = some q → RunOk P fun f' args imps => if f' = f then (q args).map fun m => (m, imps) else none) :
    RunOk P fun f' args imps => if f' = f then (q args).map fun m => (m, imps) else none := by
  cases hf : (f == k) with
  | true =>
    rw [hf] at h
    cases h
    have : f = k := by simpa using hf
    subst this
    exact @hk
  | false => rw [hf] at h; exact @hr h
theorem ext_case2 {P : Program} {f k k2 : FuncId} {q q' : List MV → Option MV} {r : Option (List MV → Option MV)} (h : (bif f == k || f == k2 then some q' else r) = some q)
    (hk : RunOk P fun f' args imps => if f' = k then (q' args).map fun m => (m, imps) else none) (hk2 : RunOk P fun f' args imps => if f' = k2 then (q' args).map fun m => (m, imps) else none) (hr : r = some q → RunOk P fun f' args imps => if f' = f then (q args).map fun m => (m, imps) else none) :
    RunOk P fun f' args imps => if f' = f then (q args).map fun m => (m, imps) else none := by
  cases hf : (f == k) with
  | true =>
    rw [hf] at h
    cases h
    have : f = k := by simpa using hf
    subst this
    exact @hk
  | false =>
    rw [hf] at h
    cases hf2 : (f == k2) with
    | true =>
      rw [hf2] at h
      cases h
      have : f = k2 := by simpa using hf2
      subst this
      exact @hk2
    | false => rw [hf2] at h; exact @hr h
set_option maxRecDepth 100000 in
theorem hext (f : FuncId) (q : List MV → Option MV) (hq : E.ext f = some q) : RunOk E.P fun f' args imps => if f' = f then (q args).map fun m => (m, imps) else none := by
  refine @ext_case _ f 194 q _ _ hq atoiR fun hq => @ext_case _ f 62 q _ _ hq itoaR fun hq => @ext_case _ f 169 q _ _ hq joinR fun hq => @ext_case2 _ f 136 83 q _ _ hq clipR_136 clipR_83 fun hq => @ext_case _ f 45 q _ _ hq clone_45 fun hq => @ext_case _ f 46 q _ _ hq clone_46 fun hq => @ext_case _ f 85 q _ _ hq clone_85 fun hq => @ext_case _ f 86 q _ _ hq clone_86 fun hq => @ext_case _ f 87 q _ _ hq clone_87 fun hq => @ext_case _ f 88 q _ _ hq clone_88 fun hq => @ext_case _ f 89 q _ _ hq clone_89 fun hq => @ext_case _ f 90 q _ _ hq clone_90 fun hq => @ext_case _ f 91 q _ _ hq clone_91 fun hq => @ext_case _ f 92 q _ _ hq clone_92 fun hq => @ext_case _ f 146 q _ _ hq clone_146 fun hq => @ext_case _ f 147 q _ _ hq clone_147 fun hq => ?_
  cases hq
set_option maxRecDepth 100000 in
theorem run_ok {L : Nat} (D : Nat) : RunOk Tryz.prog (ev E L D) := by
  have hm : E.P.follows .mixedOrders = true := mixed
  have hn : ∀ (f : FuncId) (fn : Func), E.P.funcs[f]? = some fn → (fn.name == "runtime.NumGoroutine") = false := name_ok
  have h : RunOk E.P (ev E L D) := sound (L := L) hm hn lex_ok hext D
  exact @h
end Kw
namespace Kw
open Go Go.ChangeShapes Go.WideShapes Go.ChangeAt Go.RowKit
theorem u8_rng {n : Int} (h : (Lit.int .u8 n).wf = true) : 0 ≤ n ∧ n ≤ 255 := by
  simp [Lit.wf, IntKind.min, IntKind.max, IntKind.signed, IntKind.bits] at h
  omega
/-- a slice of bytes that came in -/
theorem open_u8s {H : Type} {enc : TypeId × Value → H} {P : Program} {W : World} {base : Nat} {t e : TypeId} {v : Value} {d : DataW H} {p : List MemPlace} (ht : P.underlying t = some (.slice e)) (he : P.underlying e = some (.int .u8)) (hc : P.cellsOf e = 1)
    (hval : Value.okWide P W .any base t v) (h : DataW.Trod enc P W 0 (fun _ => true) true t v d p) : ∃ l : List UInt8, SV W (there W) v (.sl (l.map fun x => [.int .u8 x.toNat])) := by
  obtain ⟨a1, len, cap, rfl⟩ := okWide_slice ht hval
  obtain ⟨fuel, hf⟩ := h
  rcases open_ints ht he hc hf with ⟨hcs, hx⟩ | ⟨a, len', cap', zs, hcs, _, hl, hm, hz, hx, hcell, hwz⟩
  · simp [Value.cells] at hcs
    obtain ⟨rfl, rfl, rfl⟩ := hcs
    exact ⟨[], .sl 1 (fun _ _ => .int .u8 0) rfl (Nat.le_refl _) (fun i row hi => by simp at hi) (fun h => absurd h (Nat.lt_irrefl 0)) (fun i row j m hi => by simp at hi)⟩
  · simp [Value.cells] at hcs
    obtain ⟨rfl, rfl, rfl⟩ := hcs
    simp only [Prod.mk.injEq] at hx
    obtain ⟨rfl, rfl⟩ := hx
    simp only [if_true] at hz
    have hlen : ((zs.take len).map fun n => UInt8.ofNat n.toNat).length = len := by simp; omega
    refine ⟨(zs.take len).map fun n => UInt8.ofNat n.toNat, ?_⟩
    by_cases h0 : len = 0
    · subst h0
      exact .sl 1 (fun _ _ => .int .u8 0) (by simp) hl (fun i row hi => by simp at hi) (fun h => absurd h (Nat.lt_irrefl 0)) (fun i row j m hi => by simp at hi)
    · have hc0 := hcell 0 (by omega)
      obtain ⟨ab, ao, spot⟩ := a
      have hspot : spot = none := by simpa [Addr.add] using World.cell?_spot hc0
      subst hspot
      have hin : ab < W.heap.size := by
        have := DataW.trod_lt _ _ _ _ hf (.cell ab ao) (by
          simp only [MemPlace.row, List.mem_map, List.mem_range]
          exact ⟨0, by omega, rfl⟩)
        exact this
      refine sv_bytes rfl hin hl _ hlen fun i x hi => ?_
      rw [List.getElem?_map] at hi
      obtain ⟨n, hn, e⟩ := Option.map_eq_some_iff.1 hi
      obtain ⟨hi', hn'⟩ := List.getElem?_eq_some_iff.1 hn
      have hil : i < zs.length := by simp at hi'; omega
      have hcj := hcell i hil
      rw [Addr.add_lit] at hcj
      rw [hcj, ← e]
      have en : zs.getD i 0 = n := by
        rw [← hn']; simp [List.getD, hil]
      rw [en]
      have hb := u8_rng (hwz n (by rw [← hn']; exact List.mem_of_mem_take (List.getElem_mem hi')))
      congr 2
      simp only [UInt8.toNat_ofNat']
      omega
end Kw
