import Derived.Shelf.Strconv.Atoi
import Derived.Test.YtfihjhejognafaaGreatDoorProg
import Derived.Test.YtfihjhejognafaaGreatDoorVH
import Derived.Test.YtfihjhejognafaaGreatDoorVG
import Derived.Lib.SmallJoins
import Derived.ProofKit
import Derived.ChangeSlices
import Derived.ChangeOld
import Derived.Carry
namespace Go.Proofs
open Go.Shelf
def Tryz.lays172_ren : Go.Shelf.Ren := ⟨fun | 172 => 54 | 244 => 74 | 245 => 75 | 247 => 95 | 279 => 96 | 280 => 97 | 281 => 98 | 282 => 99 | 287 => 104 | 316 => 105 | 171 => 107 | 205 => 106 | 321 => 108 | 322 => 109 | 243 => 110 | 246 => 111 | 283 => 112 | 284 => 113 | 285 => 114 | 286 => 115 | 129 => 117 | 317 => 116 | 318 => 118 | 319 => 119 | 320 => 120 | 337 => 121 | 338 => 122 | n => n, fun | 9 => 9 | 3 => 3 | 75 => 115 | 76 => 116 | 4 => 4 | 5 => 5 | 167 => 148 | 37 => 22 | 0 => 0 | 85 => 149 | 2 => 2 | 168 => 151 | 53 => 157 | 175 => 158 | 46 => 160 | 210 => 162 | 127 => 165 | 145 => 168 | 143 => 166 | 21 => 21 | 171 => 170 | 173 => 173 | 212 => 176 | 51 => 177 | 20 => 20 | 213 => 178 | 232 => 181 | 233 => 182 | 80 => 183 | n => n, fun | 15 => 0 | 16 => 1 | 17 => 2 | 18 => 3 | 19 => 4 | n => n⟩
theorem Tryz.lays172 : Go.Proofs.Lays.n172 Tryz.prog Tryz.lays172_ren := {
  mixed := by kernel_rfl
  f129 := Tryz.func117.trans (congrArg some (by kernel_rfl))
  f171 := Tryz.func107.trans (congrArg some (by kernel_rfl))
  f172 := Tryz.func54.trans (congrArg some (by kernel_rfl))
  f205 := Tryz.func106.trans (congrArg some (by kernel_rfl))
  f243 := Tryz.func110.trans (congrArg some (by kernel_rfl))
  f244 := Tryz.func74.trans (congrArg some (by kernel_rfl))
  f245 := Tryz.func75.trans (congrArg some (by kernel_rfl))
  f246 := Tryz.func111.trans (congrArg some (by kernel_rfl))
  f247 := Tryz.func95.trans (congrArg some (by kernel_rfl))
  f279 := Tryz.func96.trans (congrArg some (by kernel_rfl))
  f280 := Tryz.func97.trans (congrArg some (by kernel_rfl))
  f281 := Tryz.func98.trans (congrArg some (by kernel_rfl))
  f282 := Tryz.func99.trans (congrArg some (by kernel_rfl))
  f283 := Tryz.func112.trans (congrArg some (by kernel_rfl))
  f284 := Tryz.func113.trans (congrArg some (by kernel_rfl))
  f285 := Tryz.func114.trans (congrArg some (by kernel_rfl))
  f286 := Tryz.func115.trans (congrArg some (by kernel_rfl))
  f287 := Tryz.func104.trans (congrArg some (by kernel_rfl))
  f316 := Tryz.func105.trans (congrArg some (by kernel_rfl))
  f317 := Tryz.func116.trans (congrArg some (by kernel_rfl))
  f318 := Tryz.func118.trans (congrArg some (by kernel_rfl))
  f319 := Tryz.func119.trans (congrArg some (by kernel_rfl))
  f320 := Tryz.func120.trans (congrArg some (by kernel_rfl))
  f321 := Tryz.func108.trans (congrArg some (by kernel_rfl))
  f322 := Tryz.func109.trans (congrArg some (by kernel_rfl))
  f337 := Tryz.func121.trans (congrArg some (by kernel_rfl))
  f338 := Tryz.func122.trans (congrArg some (by kernel_rfl))
  t0 := Tryz.underlying0
  a0 := Tryz.isAgg0
  z0 := Tryz.sizeOf0
  v0 := Tryz.zeroValue0
  t2 := Tryz.underlying2
  a2 := Tryz.isAgg2
  z2 := Tryz.sizeOf2
  v2 := Tryz.zeroValue2
  t3 := Tryz.underlying3
  a3 := Tryz.isAgg3
  z3 := Tryz.sizeOf3
  v3 := Tryz.zeroValue3
  t4 := Tryz.underlying4
  a4 := Tryz.isAgg4
  z4 := Tryz.sizeOf4
  v4 := Tryz.zeroValue4
  t5 := Tryz.underlying5
  a5 := Tryz.isAgg5
  z5 := Tryz.sizeOf5
  v5 := Tryz.zeroValue5
  t9 := Tryz.underlying9
  a9 := Tryz.isAgg9
  z9 := Tryz.sizeOf9
  v9 := Tryz.zeroValue9
  t20 := Tryz.underlying20
  a20 := Tryz.isAgg20
  z20 := Tryz.sizeOf20
  v20 := Tryz.zeroValue20
  t21 := Tryz.underlying21
  a21 := Tryz.isAgg21
  z21 := Tryz.sizeOf21
  v21 := Tryz.zeroValue21
  t37 := Tryz.underlying22
  a37 := Tryz.isAgg22
  z37 := Tryz.sizeOf22
  v37 := Tryz.zeroValue22
  t46 := Tryz.underlying160
  a46 := Tryz.isAgg160
  z46 := Tryz.sizeOf160
  v46 := Tryz.zeroValue160
  t51 := Tryz.underlying177
  a51 := Tryz.isAgg177
  z51 := Tryz.sizeOf177
  v51 := Tryz.zeroValue177
  t53 := Tryz.underlying157
  a53 := Tryz.isAgg157
  z53 := Tryz.sizeOf157
  v53 := Tryz.zeroValue157
  t75 := Tryz.underlying115
  a75 := Tryz.isAgg115
  z75 := Tryz.sizeOf115
  v75 := Tryz.zeroValue115
  t76 := Tryz.underlying116
  a76 := Tryz.isAgg116
  z76 := Tryz.sizeOf116
  v76 := Tryz.zeroValue116
  t85 := Tryz.underlying149
  a85 := Tryz.isAgg149
  z85 := Tryz.sizeOf149
  v85 := Tryz.zeroValue149
  t127 := Tryz.underlying165
  a127 := Tryz.isAgg165
  z127 := Tryz.sizeOf165
  v127 := Tryz.zeroValue165
  t143 := Tryz.underlying166
  a143 := Tryz.isAgg166
  z143 := Tryz.sizeOf166
  v143 := Tryz.zeroValue166
  t145 := Tryz.underlying168
  a145 := Tryz.isAgg168
  z145 := Tryz.sizeOf168
  v145 := Tryz.zeroValue168
  t167 := Tryz.underlying148
  a167 := Tryz.isAgg148
  z167 := Tryz.sizeOf148
  v167 := Tryz.zeroValue148
  t168 := Tryz.underlying151
  a168 := Tryz.isAgg151
  z168 := Tryz.sizeOf151
  v168 := Tryz.zeroValue151
  t171 := Tryz.underlying170
  a171 := Tryz.isAgg170
  z171 := Tryz.sizeOf170
  v171 := Tryz.zeroValue170
  t173 := Tryz.underlying173
  a173 := Tryz.isAgg173
  z173 := Tryz.sizeOf173
  v173 := Tryz.zeroValue173
  t175 := Tryz.underlying158
  a175 := Tryz.isAgg158
  z175 := Tryz.sizeOf158
  v175 := Tryz.zeroValue158
  t210 := Tryz.underlying162
  a210 := Tryz.isAgg162
  z210 := Tryz.sizeOf162
  v210 := Tryz.zeroValue162
  t212 := Tryz.underlying176
  a212 := Tryz.isAgg176
  z212 := Tryz.sizeOf176
  v212 := Tryz.zeroValue176
  t213 := Tryz.underlying178
  a213 := Tryz.isAgg178
  z213 := Tryz.sizeOf178
  t232 := Tryz.underlying181
  a232 := Tryz.isAgg181
  z232 := Tryz.sizeOf181
  v232 := Tryz.zeroValue181
  t233 := Tryz.underlying182
  a233 := Tryz.isAgg182
  z233 := Tryz.sizeOf182
  v233 := Tryz.zeroValue182
  g15 := by kernel_rfl
  g16 := by kernel_rfl
  g17 := by kernel_rfl
  g18 := by kernel_rfl
  g19 := by kernel_rfl }
open Go.RowKit in
theorem Tryz.strconv_Atoi (s : ByteArray) (n : Int) (hl : s.size ≤ 18) (h : Lib.atoi s.data.toList = some n) (w : World) :
    Calls Tryz.prog 54 #[.string s] w fun e w' => e = .returned (.tuple #[.int .i64 n, .nilIface]) ∧ ∃ t, w' = Lib.bytesWorld w 5 t := Any.strconv_Atoi Tryz.lays172 s n hl h w
end Go.Proofs
namespace Kw
open Go Go.RowKit Go.Proofs Go.Joins
set_option maxRecDepth 100000
theorem enter54 (s : ByteArray) (w : World) : (callFunc 54 #[.string s]).run Tryz.prog w = .ok (.enter 54 #[.string s]) w :=
  run_enter (c := body Tryz.f54) Tryz.func54 (by kernel_rfl) (by kernel_rfl) _ _
theorem atoi_ok : RunOk Tryz.prog fun f' args imps => if f' = 54 then (atoiQ args).map fun m => (m, imps) else none := by
  refine ext_ok (q := atoiQ) (fun args m h => ?_) fun args m h vals w prot hp hv => ?_
  · unfold atoiQ at h
    split at h
    · rfl
    · cases h
  · unfold atoiQ at h
    split at h
    · rename_i s
      split at h
      · rename_i hs
        split at h
        · rename_i n hn
          cases h
          have hv' : vals = #[.string s] := by
            obtain ⟨l⟩ := vals
            change Rl _ l _ at hv
            cases hv with
            | cons h1 h2 => cases h2; cases h1; rfl
          subst hv'
          refine upon_calls (enter54 s w) ((Tryz.strconv_Atoi s n hs hn w).mono fun e w' ⟨he, t, ht⟩ => ⟨_, he, ?_, ?_⟩)
          · exact .tup (.cons (.int _ _) (.cons .ifN .nil))
          · rw [ht]; exact below_bytesWorld _ _ _ _ (Nat.le_refl _)
        · cases h
      · cases h
    · cases h
theorem run_ok {L : Nat} (D : Nat) : RunOk Tryz.prog (ev E L D) := by
  have hm : E.P.follows .mixedOrders = true := mixed
  have hn : ∀ (f : FuncId) (fn : Func), E.P.funcs[f]? = some fn → (fn.name == "runtime.NumGoroutine") = false := name_ok
  have hext : ∀ f q, E.ext f = some q → RunOk E.P fun f' args imps => if f' = f then (q args).map fun m => (m, imps) else none := fun f q hq => by
    have h : (bif f == 54 then some atoiQ else none) = some q := hq
    cases hf : (f == 54) with
    | true =>
      rw [hf] at h
      cases h
      have : f = 54 := by simpa using hf
      subst this
      exact @atoi_ok
    | false => rw [hf] at h; cases h
  have h : RunOk E.P (ev E L D) := sound (L := L) hm hn lex_ok hext D
  exact @h
end Kw
namespace Kw
open Go Go.ChangeShapes Go.WideShapes Go.ChangeAt Go.RowKit
theorem u8_rng {n : Int} (h : (Lit.int .u8 n).wf = true) : 0 ≤ n ∧ n ≤ 255 := by
  simp [Lit.wf, IntKind.min, IntKind.max, IntKind.signed, IntKind.bits] at h
  omega
/-- a slice of bytes that came in -/
theorem open_u8s {H : Type} {enc : TypeId × Value → H} {P : Program} {W : World} {base : Nat} {t e : TypeId} {v : Value} {d : DataW H} {p : List MemPlace} (ht : P.underlying t = some (.slice e)) (he : P.underlying e = some (.int .u8)) (hc : P.cellsOf e = 1)
    (hval : Value.okWide P W .any base t v) (h : DataW.Trod enc P W 0 (fun _ => true) true t v d p) : ∃ l : List UInt8, SV W (there W) v (.sl (l.map fun x => [.int .u8 x.toNat])) := by
  obtain ⟨a1, len, cap, rfl⟩ := okWide_slice ht hval
  obtain ⟨fuel, hf⟩ := h
  rcases open_ints ht he hc hf with ⟨hcs, hx⟩ | ⟨a, len', cap', zs, hcs, _, hl, hm, hz, hx, hcell, hwz⟩
  · simp [Value.cells] at hcs
    obtain ⟨rfl, rfl, rfl⟩ := hcs
    exact ⟨[], .sl 1 (fun _ _ => .int .u8 0) rfl (Nat.le_refl _) (fun i row hi => by simp at hi) (fun h => absurd h (Nat.lt_irrefl 0)) (fun i row j m hi => by simp at hi)⟩
  · simp [Value.cells] at hcs
    obtain ⟨rfl, rfl, rfl⟩ := hcs
    simp only [Prod.mk.injEq] at hx
    obtain ⟨rfl, rfl⟩ := hx
    simp only [if_true] at hz
    have hlen : ((zs.take len).map fun n => UInt8.ofNat n.toNat).length = len := by simp; omega
    refine ⟨(zs.take len).map fun n => UInt8.ofNat n.toNat, ?_⟩
    by_cases h0 : len = 0
    · subst h0
      exact .sl 1 (fun _ _ => .int .u8 0) (by simp) hl (fun i row hi => by simp at hi) (fun h => absurd h (Nat.lt_irrefl 0)) (fun i row j m hi => by simp at hi)
    · have hc0 := hcell 0 (by omega)
      obtain ⟨ab, ao, spot⟩ := a
      have hspot : spot = none := by simpa [Addr.add] using World.cell?_spot hc0
      subst hspot
      have hin : ab < W.heap.size := by
        have := DataW.trod_lt _ _ _ _ hf (.cell ab ao) (by
          simp only [MemPlace.row, List.mem_map, List.mem_range]
          exact ⟨0, by omega, rfl⟩)
        exact this
      refine sv_bytes rfl hin hl _ hlen fun i x hi => ?_
      rw [List.getElem?_map] at hi
      obtain ⟨n, hn, e⟩ := Option.map_eq_some_iff.1 hi
      obtain ⟨hi', hn'⟩ := List.getElem?_eq_some_iff.1 hn
      have hil : i < zs.length := by simp at hi'; omega
      have hcj := hcell i hil
      rw [Addr.add_lit] at hcj
      rw [hcj, ← e]
      have en : zs.getD i 0 = n := by
        rw [← hn']; simp [List.getD, hil]
      rw [en]
      have hb := u8_rng (hwz n (by rw [← hn']; exact List.mem_of_mem_take (List.getElem_mem hi')))
      congr 2
      simp only [UInt8.toNat_ofNat']
      omega
end Kw
