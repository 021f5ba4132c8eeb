import Derived.Test.YtphammifhilpdaaDoorD07
import Derived.Lib.ItoaNum
import Derived.Lib.Join
import Derived.Lib.SmallJoins
import Derived.Shelf.Strconv.Itoa3
import Derived.Shelf.LaysC
import Derived.Shelf.Strconv.AtoiAll
import Derived.Shelf.Strings.Split
import Derived.Test.YtphammifhilpdaaDoorProg
import Derived.WalkKit
import Derived.Tactics
import Derived.Lib.Walk
import Derived.ProofKit
import Derived.ChangeSlices
import Derived.ChangeOld
import Derived.Carry
import Derived.LaidMore
import Derived.LaidLaws
import Derived.Stop.LaidErr
import Derived.Stop.Joined
namespace Kw
set_option linter.unusedVariables false
set_option linter.unusedSimpArgs false
set_option linter.unusedSectionVars false
open Go Go.RowKit
variable [Gl]
theorem one_arg {w : World} {prot : Nat → Prop} {vals : Array Value} {m : MV} (hv : Rl (fun v m => SV w prot v m) vals.toList [m]) : ∃ v, vals = #[v] ∧ SV w prot v m := by
  obtain ⟨l⟩ := vals
  change Rl _ l _ at hv
  cases hv with
  | cons h1 h2 => cases h2; exact ⟨_, rfl, h1⟩
theorem two_arg {w : World} {prot : Nat → Prop} {vals : Array Value} {m n : MV} (hv : Rl (fun v m => SV w prot v m) vals.toList [m, n]) : ∃ v u, vals = #[v, u] ∧ SV w prot v m ∧ SV w prot u n := by
  obtain ⟨l⟩ := vals
  change Rl _ l _ at hv
  cases hv with
  | cons h1 h2 => cases h2 with | cons h3 h4 => cases h4; exact ⟨_, _, rfl, h1, h3⟩
theorem clip_ok {P : Program} {K : FuncId} (enter : ∀ v w, (callFunc K #[v]).run P w = .ok (.enter K #[v]) w)
    (hs : ∀ (a : Addr) (n c : Nat), n ≤ c → ∀ w, Calls P K #[.slice (some a) n c] w fun e w' => e = .returned (.slice (some a) n n) ∧ w' = w)
    (hn : ∀ (c : Nat) (w : World), Calls P K #[.slice none 0 c] w fun e w' => e = .returned (.slice none 0 0) ∧ w' = w) :
    RunOk P fun f' args imps => if f' = K then (clipQ args).map fun m => (m, imps) else none := by
  refine ext_ok (q := clipQ) (fun args m h => ?_) fun args m h vals w prot hp hv => ?_
  · unfold clipQ at h
    split at h
    · rfl
    · cases h
  unfold clipQ at h
  split at h
  case h_2 => cases h
  cases h
  obtain ⟨v, e, hsv⟩ := one_arg hv
  subst e
  refine upon_calls (enter v w) ?_
  cases hsv with
  | @sl a n c rows sz vf hl hc hrow had hsv =>
    cases a with
    | none =>
      have h0 : n = 0 := by
        by_cases h0 : 0 < n
        · obtain ⟨ad, e, _⟩ := had h0; cases e
        · omega
      subst h0
      refine (hn c w).mono fun e w' ⟨he, hw⟩ => ⟨_, he, .one ?_ rfl, by rw [hw]; exact Below.refl _ w⟩
      subst hw
      exact .sl sz vf hl (Nat.le_refl _) hrow (fun h => absurd h (Nat.lt_irrefl 0)) hsv
    | some ad =>
      refine (hs ad n c hc w).mono fun e w' ⟨he, hw⟩ => ⟨_, he, .one ?_ rfl, by rw [hw]; exact Below.refl _ w⟩
      subst hw
      exact .sl sz vf hl (Nat.le_refl _) hrow had hsv
theorem dec_small (n : Int) (h0 : 0 ≤ n) (h1 : n < 100) : (⟨(Lib.decDigits n.toNat).toArray⟩ : ByteArray) = bs (if n < 10 then [(48 + n).toNat.toUInt8] else [(48 + n / 10).toNat.toUInt8, (48 + n % 10).toNat.toUInt8]) := by
  obtain ⟨k, rfl⟩ := Int.eq_ofNat_of_zero_le h0
  rw [Int.toNat_natCast]
  unfold bs
  congr 2
  unfold Lib.decDigits
  by_cases h : k < 10
  · rw [dif_pos h, if_pos (by omega)]
    congr 1
  · rw [dif_neg h, if_neg (by omega)]
    unfold Lib.decDigits
    rw [dif_pos (by omega)]
    have e1 : (48 + (k : Int) / 10).toNat = 48 + k / 10 := by omega
    have e2 : (48 + (k : Int) % 10).toNat = 48 + k % 10 := by omega
    rw [e1, e2]
    rfl
theorem itoa_ok {P : Program} {F : FuncId} (enter : ∀ v w, (callFunc F #[v]).run P w = .ok (.enter F #[v]) w)
    (hc : ∀ (i : Nat), i < 100 → ∀ w : World, Calls P F #[.int .i64 i] w fun e w' => e = .returned (.string ⟨(Lib.decDigits i).toArray⟩) ∧ w' = w) :
    RunOk P fun f' args imps => if f' = F then (itoaQ args).map fun m => (m, imps) else none := by
  refine ext_ok (q := itoaQ) (fun args m h => ?_) fun args m h vals w prot hp hv => ?_
  · unfold itoaQ at h
    split at h
    · rfl
    · cases h
  unfold itoaQ at h
  split at h
  case h_2 => cases h
  rename_i n
  split at h
  case isFalse => cases h
  rename_i hn
  cases h
  obtain ⟨v, e, hsv⟩ := one_arg hv
  subst e
  cases hsv
  refine upon_calls (enter _ w) ?_
  have h := hc n.toNat (by omega) w
  rw [Int.toNat_of_nonneg hn.1, dec_small n hn.1 hn.2] at h
  exact h.mono fun e w' ⟨he, hw⟩ => ⟨_, he, .one (.str _) rfl, by rw [hw]; exact Below.refl _ w⟩
theorem strRows_some : ∀ {rows : List Row} {l : List (List UInt8)}, strRows rows = some l → rows = l.map fun s => [.str (bs s)]
  | [], l, h => by cases h; rfl
  | [] :: _, l, h => by cases h
  | (_ :: _ :: _) :: _, l, h => by simp [strRows] at h
  | [m] :: r, l, h => by
    cases m <;> first | (cases h; done) | skip
    rename_i s
    simp only [strRows] at h
    obtain ⟨t, ht, e⟩ := Option.bind_eq_some_iff.1 h
    cases e
    rw [List.map_cons, ← strRows_some ht, bs_data]
theorem inter_nil : ∀ (l : List (List UInt8)), ([] : List UInt8).intercalate l = l.flatten := by
  intro l
  unfold List.intercalate
  induction l with
  | nil => rfl
  | cons a t ih =>
    cases t with
    | nil => rfl
    | cons b t => simp only [List.intersperse, List.flatten_cons, List.nil_append] at ih ⊢; rw [ih]
theorem join_ok {P : Program} {F : FuncId} (enter : ∀ v u w, (callFunc F #[v, u]).run P w = .ok (.enter F #[v, u]) w)
    (hc : ∀ (bk o c : Nat) (xs : List ByteArray) (sep : ByteArray) (w : World), (∀ (j : Nat) x, xs[j]? = some x → w.cell? ⟨bk, o + j, none⟩ = some (.string x)) → bk < w.heap.size → xs.length ≤ 140737488355328 → xs.length ≤ c → (Lib.join (xs.map (·.data.toList)) sep.data.toList).length ≤ 140737488355328 →
      Calls P F #[.slice (some ⟨bk, o, none⟩) xs.length c, .string sep] w fun e w' => e = .returned (.string ⟨(Lib.join (xs.map (·.data.toList)) sep.data.toList).toArray⟩) ∧ Below w.heap.size w w') :
    RunOk P fun f' args imps => if f' = F then (joinQ args).map fun m => (m, imps) else none := by
  refine ext_ok (q := joinQ) (fun args m h => ?_) fun args m h vals w prot hp hv => ?_
  · unfold joinQ at h
    split at h
    · rfl
    · cases h
  unfold joinQ at h
  split at h
  case h_2 => cases h
  rename_i rows sep
  obtain ⟨l, hl, h⟩ := Option.bind_eq_some_iff.1 h
  split at h
  case isFalse => cases h
  rename_i hh
  obtain ⟨hsep, hlen, htot, hpos⟩ := hh
  cases h
  obtain ⟨v, u, e, hsv, hsu⟩ := two_arg hv
  subst e
  cases hsu
  refine upon_calls (enter _ _ w) ?_
  have hrows := strRows_some hl
  cases hsv with
  | @sl a n c _ sz vf hn hcap hrow had hsv =>
    have hnl : l.length = n := by rw [← hn, hrows, List.length_map]
    obtain ⟨ad, ea, hsp, hpr, hcell⟩ := had (by omega)
    subst ea
    obtain ⟨b, off, spot⟩ := ad
    simp only at hsp
    subst hsp
    have hsz : sz = 1 := by
      have h0 : l[0]? = some (l[0]'hpos) := List.getElem?_eq_getElem hpos
      have h1 : rows[0]? = some [.str (bs (l[0]'hpos))] := by rw [hrows, List.getElem?_map, h0]; rfl
      exact (hrow 0 _ h1).symm
    subst hsz
    have h := hc b off c (l.map bs) sep w (fun j x hj => ?_) (hp _ hpr) (by simp; omega) (by simp; omega) ?_
    · rw [List.length_map, hnl] at h
      refine h.mono fun e w' ⟨he, hB⟩ => ⟨_, he, .one ?_ rfl, hB⟩
      have e1 : (l.map bs).map (·.data.toList) = l := by rw [List.map_map]; exact (List.map_congr_left (fun _ _ => rfl)).trans (List.map_id l)
      rw [e1, hsep]
      unfold Lib.join
      rw [inter_nil]
      exact .str _
    · rw [List.getElem?_map] at hj
      obtain ⟨s, hs, e⟩ := Option.map_eq_some_iff.1 hj
      subst e
      have h1 : rows[j]? = some [.str (bs s)] := by rw [hrows, List.getElem?_map, hs]; rfl
      have h2 := hcell j _ 0 _ h1 rfl
      have h3 := hsv j _ 0 _ h1 rfl
      rw [Nat.mul_one, Nat.add_zero] at h2
      rw [h2]
      generalize vf j 0 = z at h3
      cases h3; rfl
    · have e1 : (l.map bs).map (·.data.toList) = l := by rw [List.map_map]; exact (List.map_congr_left (fun _ _ => rfl)).trans (List.map_id l)
      rw [e1, hsep]
      unfold Lib.join
      rw [inter_nil]; omega
end Kw
/-
  DERIVED: THE SHELF's CONTRACTS AT THIS DUMP, IN PLAIN WORDS (tools/lay-plain.mjs out of 'TrydS.lean', which tools/lay-shelf.mjs wrote): THE SAME DECLARATIONS UNDER THE SAME NAMES: 'import', 'namespace', 'open', 'def', 'theorem' AND NOTHING ELSE: no command of the shelf's: FOR A HAND-IN. Each laying: the table of numbers ('.._ren') and one theorem, a field a fact of the dump's own or the kernel's comparison; each contract: ONE APPLICATION.
-/
namespace Go.Proofs
set_option linter.unusedVariables false
set_option linter.unusedSimpArgs false
set_option linter.unusedSectionVars false
open Go.Shelf
def Tryd.lays171_ren : Go.Shelf.Ren := ⟨fun | 171 => 48 | 243 => 64 | 246 => 77 | 283 => 90 | 284 => 91 | 285 => 92 | 286 => 93 | 129 => 98 | 317 => 97 | 318 => 99 | 319 => 100 | 320 => 101 | 337 => 102 | 338 => 103 | n => n, fun | 3 => 3 | 9 => 9 | 2 => 2 | 4 => 4 | 171 => 119 | 0 => 0 | 53 => 102 | 37 => 27 | 5 => 5 | 173 => 122 | 212 => 132 | 51 => 128 | 20 => 20 | 213 => 133 | 46 => 105 | 232 => 136 | 233 => 137 | n => n, fun | 17 => 6 | 18 => 7 | 19 => 8 | n => n⟩
theorem Tryd.lays171 : Go.Proofs.Lays.n171 Tryd.prog Tryd.lays171_ren := {
  mixed := by kernel_rfl
  f129 := Tryd.func98.trans (congrArg some (by kernel_rfl))
  f171 := Tryd.func48.trans (congrArg some (by kernel_rfl))
  f243 := Tryd.func64.trans (congrArg some (by kernel_rfl))
  f246 := Tryd.func77.trans (congrArg some (by kernel_rfl))
  f283 := Tryd.func90.trans (congrArg some (by kernel_rfl))
  f284 := Tryd.func91.trans (congrArg some (by kernel_rfl))
  f285 := Tryd.func92.trans (congrArg some (by kernel_rfl))
  f286 := Tryd.func93.trans (congrArg some (by kernel_rfl))
  f317 := Tryd.func97.trans (congrArg some (by kernel_rfl))
  f318 := Tryd.func99.trans (congrArg some (by kernel_rfl))
  f319 := Tryd.func100.trans (congrArg some (by kernel_rfl))
  f320 := Tryd.func101.trans (congrArg some (by kernel_rfl))
  f337 := Tryd.func102.trans (congrArg some (by kernel_rfl))
  f338 := Tryd.func103.trans (congrArg some (by kernel_rfl))
  t0 := Tryd.underlying0
  a0 := Tryd.isAgg0
  z0 := Tryd.sizeOf0
  v0 := Tryd.zeroValue0
  t2 := Tryd.underlying2
  a2 := Tryd.isAgg2
  z2 := Tryd.sizeOf2
  v2 := Tryd.zeroValue2
  t3 := Tryd.underlying3
  a3 := Tryd.isAgg3
  z3 := Tryd.sizeOf3
  v3 := Tryd.zeroValue3
  t4 := Tryd.underlying4
  a4 := Tryd.isAgg4
  z4 := Tryd.sizeOf4
  v4 := Tryd.zeroValue4
  t5 := Tryd.underlying5
  a5 := Tryd.isAgg5
  z5 := Tryd.sizeOf5
  v5 := Tryd.zeroValue5
  t9 := Tryd.underlying9
  a9 := Tryd.isAgg9
  z9 := Tryd.sizeOf9
  v9 := Tryd.zeroValue9
  t20 := Tryd.underlying20
  a20 := Tryd.isAgg20
  z20 := Tryd.sizeOf20
  v20 := Tryd.zeroValue20
  t37 := Tryd.underlying27
  a37 := Tryd.isAgg27
  z37 := Tryd.sizeOf27
  v37 := Tryd.zeroValue27
  t46 := Tryd.underlying105
  a46 := Tryd.isAgg105
  z46 := Tryd.sizeOf105
  v46 := Tryd.zeroValue105
  t51 := Tryd.underlying128
  a51 := Tryd.isAgg128
  z51 := Tryd.sizeOf128
  v51 := Tryd.zeroValue128
  t53 := Tryd.underlying102
  a53 := Tryd.isAgg102
  z53 := Tryd.sizeOf102
  v53 := Tryd.zeroValue102
  t171 := Tryd.underlying119
  a171 := Tryd.isAgg119
  z171 := Tryd.sizeOf119
  v171 := Tryd.zeroValue119
  t173 := Tryd.underlying122
  a173 := Tryd.isAgg122
  z173 := Tryd.sizeOf122
  v173 := Tryd.zeroValue122
  t212 := Tryd.underlying132
  a212 := Tryd.isAgg132
  z212 := Tryd.sizeOf132
  v212 := Tryd.zeroValue132
  t213 := Tryd.underlying133
  a213 := Tryd.isAgg133
  z213 := Tryd.sizeOf133
  t232 := Tryd.underlying136
  a232 := Tryd.isAgg136
  z232 := Tryd.sizeOf136
  v232 := Tryd.zeroValue136
  t233 := Tryd.underlying137
  a233 := Tryd.isAgg137
  z233 := Tryd.sizeOf137
  v233 := Tryd.zeroValue137
  g17 := by kernel_rfl
  g18 := by kernel_rfl
  g19 := by kernel_rfl }
def Tryd.laysC172_ren : Go.Shelf.Ren := ⟨fun | 172 => 26 | 244 => 44 | 245 => 45 | 247 => 59 | 279 => 60 | 280 => 61 | 281 => 62 | 282 => 63 | 287 => 74 | 316 => 75 | 171 => 48 | 205 => 76 | 321 => 88 | 322 => 89 | 243 => 64 | 246 => 77 | 283 => 90 | 284 => 91 | 285 => 92 | 286 => 93 | 129 => 98 | 317 => 97 | 318 => 99 | 319 => 100 | 320 => 101 | 337 => 102 | 338 => 103 | n => n, fun | 9 => 9 | 3 => 3 | 75 => 58 | 76 => 59 | 4 => 4 | 5 => 5 | 167 => 86 | 37 => 27 | 0 => 0 | 85 => 87 | 2 => 2 | 168 => 89 | 53 => 102 | 175 => 103 | 46 => 105 | 210 => 107 | 127 => 115 | 145 => 118 | 143 => 116 | 21 => 21 | 171 => 119 | 173 => 122 | 212 => 132 | 51 => 128 | 20 => 20 | 213 => 133 | 232 => 136 | 233 => 137 | 80 => 138 | n => n, fun | 15 => 1 | 16 => 2 | 17 => 6 | 18 => 7 | 19 => 8 | n => n⟩
theorem Tryd.laysC172 : Go.Proofs.LaysC.n172 Tryd.prog Tryd.laysC172_ren := {
  mixed := by kernel_rfl
  f129 := Tryd.func98.trans (congrArg some (by kernel_rfl))
  f171 := Tryd.func48.trans (congrArg some (by kernel_rfl))
  f172 := Tryd.func26.trans (congrArg some (by kernel_rfl))
  f205 := Tryd.func76.trans (congrArg some (by kernel_rfl))
  f243 := Tryd.func64.trans (congrArg some (by kernel_rfl))
  f244 := Tryd.func44.trans (congrArg some (by kernel_rfl))
  f245 := Tryd.func45.trans (congrArg some (by kernel_rfl))
  f246 := Tryd.func77.trans (congrArg some (by kernel_rfl))
  f247 := Tryd.func59.trans (congrArg some (by kernel_rfl))
  f279 := Tryd.func60.trans (congrArg some (by kernel_rfl))
  f280 := Tryd.func61.trans (congrArg some (by kernel_rfl))
  f281 := Tryd.func62.trans (congrArg some (by kernel_rfl))
  f282 := Tryd.func63.trans (congrArg some (by kernel_rfl))
  f283 := Tryd.func90.trans (congrArg some (by kernel_rfl))
  f284 := Tryd.func91.trans (congrArg some (by kernel_rfl))
  f285 := Tryd.func92.trans (congrArg some (by kernel_rfl))
  f286 := Tryd.func93.trans (congrArg some (by kernel_rfl))
  f287 := Tryd.func74.trans (congrArg some (by kernel_rfl))
  f316 := Tryd.func75.trans (congrArg some (by kernel_rfl))
  f317 := Tryd.func97.trans (congrArg some (by kernel_rfl))
  f318 := Tryd.func99.trans (congrArg some (by kernel_rfl))
  f319 := Tryd.func100.trans (congrArg some (by kernel_rfl))
  f320 := Tryd.func101.trans (congrArg some (by kernel_rfl))
  f321 := Tryd.func88.trans (congrArg some (by kernel_rfl))
  f322 := Tryd.func89.trans (congrArg some (by kernel_rfl))
  f337 := Tryd.func102.trans (congrArg some (by kernel_rfl))
  f338 := Tryd.func103.trans (congrArg some (by kernel_rfl))
  t0 := Tryd.underlying0
  a0 := Tryd.isAgg0
  z0 := Tryd.sizeOf0
  v0 := Tryd.zeroValue0
  t2 := Tryd.underlying2
  a2 := Tryd.isAgg2
  z2 := Tryd.sizeOf2
  v2 := Tryd.zeroValue2
  t3 := Tryd.underlying3
  a3 := Tryd.isAgg3
  z3 := Tryd.sizeOf3
  v3 := Tryd.zeroValue3
  t4 := Tryd.underlying4
  a4 := Tryd.isAgg4
  z4 := Tryd.sizeOf4
  v4 := Tryd.zeroValue4
  t5 := Tryd.underlying5
  a5 := Tryd.isAgg5
  z5 := Tryd.sizeOf5
  v5 := Tryd.zeroValue5
  t9 := Tryd.underlying9
  a9 := Tryd.isAgg9
  z9 := Tryd.sizeOf9
  v9 := Tryd.zeroValue9
  t20 := Tryd.underlying20
  a20 := Tryd.isAgg20
  z20 := Tryd.sizeOf20
  v20 := Tryd.zeroValue20
  t21 := Tryd.underlying21
  a21 := Tryd.isAgg21
  z21 := Tryd.sizeOf21
  v21 := Tryd.zeroValue21
  t37 := Tryd.underlying27
  a37 := Tryd.isAgg27
  z37 := Tryd.sizeOf27
  v37 := Tryd.zeroValue27
  t46 := Tryd.underlying105
  a46 := Tryd.isAgg105
  z46 := Tryd.sizeOf105
  v46 := Tryd.zeroValue105
  t51 := Tryd.underlying128
  a51 := Tryd.isAgg128
  z51 := Tryd.sizeOf128
  v51 := Tryd.zeroValue128
  t53 := Tryd.underlying102
  a53 := Tryd.isAgg102
  z53 := Tryd.sizeOf102
  v53 := Tryd.zeroValue102
  t75 := Tryd.underlying58
  a75 := Tryd.isAgg58
  z75 := Tryd.sizeOf58
  v75 := Tryd.zeroValue58
  t76 := Tryd.underlying59
  a76 := Tryd.isAgg59
  z76 := Tryd.sizeOf59
  v76 := Tryd.zeroValue59
  t85 := Tryd.underlying87
  a85 := Tryd.isAgg87
  z85 := Tryd.sizeOf87
  v85 := Tryd.zeroValue87
  t127 := Tryd.underlying115
  a127 := Tryd.isAgg115
  z127 := Tryd.sizeOf115
  v127 := Tryd.zeroValue115
  t143 := Tryd.underlying116
  a143 := Tryd.isAgg116
  z143 := Tryd.sizeOf116
  v143 := Tryd.zeroValue116
  t145 := Tryd.underlying118
  a145 := Tryd.isAgg118
  z145 := Tryd.sizeOf118
  v145 := Tryd.zeroValue118
  t167 := Tryd.underlying86
  a167 := Tryd.isAgg86
  z167 := Tryd.sizeOf86
  v167 := Tryd.zeroValue86
  t168 := Tryd.underlying89
  a168 := Tryd.isAgg89
  z168 := Tryd.sizeOf89
  v168 := Tryd.zeroValue89
  t171 := Tryd.underlying119
  a171 := Tryd.isAgg119
  z171 := Tryd.sizeOf119
  v171 := Tryd.zeroValue119
  t173 := Tryd.underlying122
  a173 := Tryd.isAgg122
  z173 := Tryd.sizeOf122
  v173 := Tryd.zeroValue122
  t175 := Tryd.underlying103
  a175 := Tryd.isAgg103
  z175 := Tryd.sizeOf103
  v175 := Tryd.zeroValue103
  t210 := Tryd.underlying107
  a210 := Tryd.isAgg107
  z210 := Tryd.sizeOf107
  v210 := Tryd.zeroValue107
  t212 := Tryd.underlying132
  a212 := Tryd.isAgg132
  z212 := Tryd.sizeOf132
  v212 := Tryd.zeroValue132
  t213 := Tryd.underlying133
  a213 := Tryd.isAgg133
  z213 := Tryd.sizeOf133
  t232 := Tryd.underlying136
  a232 := Tryd.isAgg136
  z232 := Tryd.sizeOf136
  v232 := Tryd.zeroValue136
  t233 := Tryd.underlying137
  a233 := Tryd.isAgg137
  z233 := Tryd.sizeOf137
  v233 := Tryd.zeroValue137
  g15 := by kernel_rfl
  g16 := by kernel_rfl
  g17 := by kernel_rfl
  g18 := by kernel_rfl
  g19 := by kernel_rfl
  t80 := Tryd.underlying138
  a80 := Tryd.isAgg138
  z80 := Tryd.sizeOf138
  v80 := Tryd.zeroValue138
  i0 := by kernel_rfl
  i2 := by kernel_rfl
  i3 := by kernel_rfl
  i4 := by kernel_rfl
  i5 := by kernel_rfl
  i9 := by kernel_rfl
  i20 := by kernel_rfl
  i21 := by kernel_rfl
  i37 := by kernel_rfl
  i46 := by kernel_rfl
  i51 := by kernel_rfl
  i53 := by kernel_rfl
  i75 := by kernel_rfl
  i76 := by kernel_rfl
  i80 := by kernel_rfl
  i85 := by kernel_rfl
  i127 := by kernel_rfl
  i143 := by kernel_rfl
  i145 := by kernel_rfl
  i167 := by kernel_rfl
  i168 := by kernel_rfl
  i171 := by kernel_rfl
  i173 := by kernel_rfl
  i175 := by kernel_rfl
  i210 := by kernel_rfl
  i212 := by kernel_rfl
  i232 := by kernel_rfl
  i233 := by kernel_rfl
  m15 := by kernel_rfl
  m16 := by kernel_rfl
  m17 := by kernel_rfl
  m18 := by kernel_rfl
  m19 := by kernel_rfl
  c0 := by kernel_rfl
  c2 := by kernel_rfl
  c3 := by kernel_rfl
  c4 := by kernel_rfl
  c5 := by kernel_rfl
  c9 := by kernel_rfl
  c20 := by kernel_rfl
  c21 := by kernel_rfl
  c37 := by kernel_rfl
  c46 := by kernel_rfl
  c51 := by kernel_rfl
  c53 := by kernel_rfl
  c75 := by kernel_rfl
  c76 := by kernel_rfl
  c80 := by kernel_rfl
  c85 := by kernel_rfl
  c127 := by kernel_rfl
  c143 := by kernel_rfl
  c145 := by kernel_rfl
  c167 := by kernel_rfl
  c168 := by kernel_rfl
  c171 := by kernel_rfl
  c173 := by kernel_rfl
  c175 := by kernel_rfl
  c210 := by kernel_rfl
  c212 := by kernel_rfl
  c213 := by kernel_rfl
  c232 := by kernel_rfl
  c233 := by kernel_rfl }
def Tryd.lays221_ren : Go.Shelf.Ren := ⟨fun | 221 => 34 | 268 => 51 | 138 => 52 | 143 => 53 | 195 => 66 | 197 => 67 | 218 => 68 | 219 => 69 | 260 => 80 | 217 => 81 | 225 => 82 | 224 => 83 | 267 => 84 | 266 => 95 | 314 => 96 | n => n, fun | 9 => 9 | 3 => 3 | 31 => 22 | 4 => 4 | 0 => 0 | 105 => 94 | 21 => 21 | 5 => 5 | 46 => 105 | 119 => 124 | 139 => 127 | 138 => 126 | 146 => 129 | 51 => 128 | n => n, fun | 1 => 3 | 3 => 4 | 4 => 5 | n => n⟩
theorem Tryd.lays221 : Go.Proofs.Lays.n221 Tryd.prog Tryd.lays221_ren := {
  mixed := by kernel_rfl
  f138 := Tryd.func52.trans (congrArg some (by kernel_rfl))
  f143 := Tryd.func53.trans (congrArg some (by kernel_rfl))
  f195 := Tryd.func66.trans (congrArg some (by kernel_rfl))
  f197 := Tryd.func67.trans (congrArg some (by kernel_rfl))
  f217 := Tryd.func81.trans (congrArg some (by kernel_rfl))
  f218 := Tryd.func68.trans (congrArg some (by kernel_rfl))
  f219 := Tryd.func69.trans (congrArg some (by kernel_rfl))
  f221 := Tryd.func34.trans (congrArg some (by kernel_rfl))
  f224 := Tryd.func83.trans (congrArg some (by kernel_rfl))
  f225 := Tryd.func82.trans (congrArg some (by kernel_rfl))
  f260 := Tryd.func80.trans (congrArg some (by kernel_rfl))
  f266 := Tryd.func95.trans (congrArg some (by kernel_rfl))
  f267 := Tryd.func84.trans (congrArg some (by kernel_rfl))
  f268 := Tryd.func51.trans (congrArg some (by kernel_rfl))
  f314 := Tryd.func96.trans (congrArg some (by kernel_rfl))
  t0 := Tryd.underlying0
  a0 := Tryd.isAgg0
  z0 := Tryd.sizeOf0
  v0 := Tryd.zeroValue0
  t3 := Tryd.underlying3
  a3 := Tryd.isAgg3
  z3 := Tryd.sizeOf3
  v3 := Tryd.zeroValue3
  t4 := Tryd.underlying4
  a4 := Tryd.isAgg4
  z4 := Tryd.sizeOf4
  v4 := Tryd.zeroValue4
  t5 := Tryd.underlying5
  a5 := Tryd.isAgg5
  z5 := Tryd.sizeOf5
  v5 := Tryd.zeroValue5
  t9 := Tryd.underlying9
  a9 := Tryd.isAgg9
  z9 := Tryd.sizeOf9
  v9 := Tryd.zeroValue9
  t21 := Tryd.underlying21
  a21 := Tryd.isAgg21
  z21 := Tryd.sizeOf21
  v21 := Tryd.zeroValue21
  t31 := Tryd.underlying22
  a31 := Tryd.isAgg22
  z31 := Tryd.sizeOf22
  v31 := Tryd.zeroValue22
  t46 := Tryd.underlying105
  a46 := Tryd.isAgg105
  z46 := Tryd.sizeOf105
  v46 := Tryd.zeroValue105
  t51 := Tryd.underlying128
  a51 := Tryd.isAgg128
  z51 := Tryd.sizeOf128
  v51 := Tryd.zeroValue128
  t105 := Tryd.underlying94
  a105 := Tryd.isAgg94
  z105 := Tryd.sizeOf94
  v105 := Tryd.zeroValue94
  t119 := Tryd.underlying124
  a119 := Tryd.isAgg124
  z119 := Tryd.sizeOf124
  t138 := Tryd.underlying126
  a138 := Tryd.isAgg126
  z138 := Tryd.sizeOf126
  v138 := Tryd.zeroValue126
  t139 := Tryd.underlying127
  a139 := Tryd.isAgg127
  z139 := Tryd.sizeOf127
  v139 := Tryd.zeroValue127
  t146 := Tryd.underlying129
  a146 := Tryd.isAgg129
  z146 := Tryd.sizeOf129
  v146 := Tryd.zeroValue129
  g1 := by kernel_rfl
  g3 := by kernel_rfl
  g4 := by kernel_rfl }
end Go.Proofs
namespace Kw
set_option linter.unusedVariables false
set_option linter.unusedSimpArgs false
set_option linter.unusedSectionVars false
open Go Go.RowKit Go.Proofs Go.Shelf
set_option maxRecDepth 100000
section
variable [Gl]
theorem itoaR : RunOk Tryd.prog fun f' args imps => if f' = 48 then (itoaQ args).map fun m => (m, imps) else none :=
  @itoa_ok _ _ 48 (fun v w => run_enter (c := (match Tryd.f48.body with | some c => c | none => .skip)) Tryd.func48 (by kernel_rfl) (by kernel_rfl) _ _) fun i hi w => Any.strconv_Itoa_small Tryd.lays171 i hi w
theorem enterAtoi (s : ByteArray) (w : World) : (callFunc 26 #[.string s]).run Tryd.prog w = .ok (.enter 26 #[.string s]) w :=
  run_enter (c := (match Tryd.f26.body with | some c => c | none => .skip)) Tryd.func26 (by kernel_rfl) (by kernel_rfl) _ _
end
/-- the two variables that hold errors -/
def ErrsIn [Gl] : Prop := Gl.glr 1 = some (.iface false) ∧ Gl.glr 2 = some (.iface false)
theorem err_cell [Gl] {prot : Nat → Prop} {w : World} (h : GlobOk prot w) {v : Nat} (e : Gl.glr v = some (.iface false)) : ∃ t x, w.cell? ⟨v, 0, none⟩ = some (.iface t x) := by
  obtain ⟨_, x, hx, hs⟩ := h v _ e
  cases hs
  exact ⟨_, _, hx⟩
theorem atoaR [Gl] (hE : ErrsIn) : RunOk Tryd.prog fun f' args imps => if f' = 26 then (atoaQ args).map fun m => (m, imps) else none := by
  refine ext_okG (q := atoaQ) (fun args m h => ?_) fun args m h vals w prot hp hg hv => ?_
  · unfold atoaQ at h
    split at h
    · rfl
    · cases h
  · unfold atoaQ at h
    split at h
    case h_2 => cases h
    rename_i s
    split at h
    case isFalse => cases h
    rename_i hs
    obtain ⟨v, e, hsv⟩ := one_arg hv
    subst e
    cases hsv
    obtain ⟨t1, x1, c1⟩ := err_cell hg hE.1
    obtain ⟨t2, x2, c2⟩ := err_cell hg hE.2
    cases hn : Lib.atoiAll s.data.toList with
    | ok n =>
      rw [hn] at h
      cases h
      refine upon_calls (enterAtoi s w) ((Any.strconv_Atoi_ok Tryd.laysC172 s (by omega) n hn w).mono fun e w' ⟨he, ht⟩ => ⟨_, he, ?_, ?_⟩)
      · exact .tup (.cons (.int _ _) (.cons .ifN .nil))
      · rcases ht with rfl | ⟨t, rfl⟩
        · exact Below.refl _ _
        · exact Lib.bytesWorld_below _ _ _
    | range =>
      rw [hn] at h
      cases h
      refine upon_calls (enterAtoi s w) ((Any.strconv_Atoi_range Tryd.laysC172 s (by omega) hn _ w c2 (.inr ⟨_, _, rfl⟩)).mono fun e w' ⟨N, he, _, _, hB⟩ => ⟨_, he, ?_, hB⟩)
      exact .tup (.cons (.int _ _) (.cons (.ifS _ _) .nil))
    | _ =>
      rw [hn] at h
      cases h
      refine upon_calls (enterAtoi s w) ((Any.strconv_Atoi_syntax Tryd.laysC172 s (by omega) hn _ w c1 (.inr ⟨_, _, rfl⟩)).mono fun e w' ⟨N, he, _, _, hB⟩ => ⟨_, he, ?_, hB⟩)
      exact .tup (.cons (.int _ _) (.cons (.ifS _ _) .nil))
theorem hi9 : (Tryd.prog.info? (Tryd.lays221_ren.t 9)).map (fun i => (i.zero, i.size, i.bytes)) = some (some (.string ByteArray.empty), 1, 16) := by kernel_rfl
section
variable [Gl]
theorem genSplit_at (s : ByteArray) (w : World) (hs : s.size ≤ 2000000) :
    Calls Tryd.prog 34 #[.string s, .string ⟨#[32]⟩, .int .i64 0, .int .i64 (-1)] w fun e w' =>
      e = .returned (.slice (some ⟨w.heap.size, 0, none⟩) (spl [] s.data.toList).length (spl [] s.data.toList).length) ∧
      w' = w.alloc (.cells (((spl [] s.data.toList).map fun x => Value.string (bs x)).toArray) 9) := by
  have hl := spl_len s.data.toList []
  have hc : Lib.countB s ⟨#[32]⟩ = s.data.toList.count 32 := by
    show Lib.count s.data.toList [32] = _
    rw [Lib.count_one]
  have hC : Calls Tryd.prog 52 #[.string s, .string ⟨#[32]⟩] w fun e w' => e = .returned (.int .i64 (Lib.countB s ⟨#[32]⟩)) ∧ w' = w := by
    refine (Any.strings_Count_one (ρ := Tryd.lays221_ren) { Tryd.lays221 with } s 32 w).mono fun e w' ⟨he, hw⟩ => ⟨?_, hw⟩
    rw [he]
    show _ = Ending.returned (Value.int .i64 ((Lib.count s.data.toList [32] : Nat) : Int))
    rw [Lib.count_one]
    rfl
  have hI : ∀ (x : ByteArray) (c : Array Value), x.size ≤ s.size → Calls Tryd.prog 53 #[.string x, .string ⟨#[32]⟩] (w.alloc (.cells c 9)) fun e w' => e = .returned (.int .i64 (Lib.indexB x ⟨#[32]⟩)) ∧ w' = w.alloc (.cells c 9) := fun x c _ => by
    refine (Any.strings_Index_one (ρ := Tryd.lays221_ren) { Tryd.lays221 with } x 32 _).mono fun e w' ⟨he, hw⟩ => ⟨?_, hw⟩
    rw [he]
    show _ = Ending.returned (Value.int .i64 (Lib.index x.data.toList [32]))
    rw [Lib.index_one]
  have hle : s.data.toList.count 32 ≤ s.size := List.count_le_length
  have h := Any.strings_genSplit_core Tryd.lays221 hi9 s ⟨#[32]⟩ 0 (-1) ((spl [] s.data.toList).length) w (by omega) (by decide) (by decide) hI hC (by decide) (by decide) (by rw [if_pos (by decide), hc]; omega)
  have e1 : Lib.splitB ⟨#[32]⟩ 0 ((spl [] s.data.toList).length - 1) s = (spl [] s.data.toList).map bs := by
    rw [hl, Nat.add_sub_cancel, ← splitB_spl]
    rfl
  rw [e1] at h
  have e2 : ((spl [] s.data.toList).map bs).length = (spl [] s.data.toList).length := by simp
  have e3 : Lib.cellsOf ((spl [] s.data.toList).map bs) ((spl [] s.data.toList).length) = ((spl [] s.data.toList).map fun x => Value.string (bs x)).toArray := by
    conv => lhs; rw [← e2, Lib.cellsOf_full, List.map_map]
    rfl
  rw [e2, e3] at h
  exact h
theorem split_at (s : ByteArray) (w : World) (hs : s.size ≤ 2000000) :
    Calls Tryd.prog 23 #[.string s, .string ⟨#[32]⟩] w fun e w' =>
      e = .returned (.slice (some ⟨w.heap.size, 0, none⟩) (spl [] s.data.toList).length (spl [] s.data.toList).length) ∧
      w' = w.alloc (.cells (((spl [] s.data.toList).map fun x => Value.string (bs x)).toArray) 9) := by
  have c := genSplit_at s w hs
  go_enter Tryd.func23, Tryd.ntmps23
  go_wp2_with (go_at_call 34; refine c.mono ?_; rintro e w' ⟨rfl, hw⟩; rw [hw])
  go_ret
  exact ⟨rfl, rfl⟩
theorem enterSpl (s c : ByteArray) (w : World) : (callFunc 23 #[.string s, .string c]).run Tryd.prog w = .ok (.enter 23 #[.string s, .string c]) w :=
  run_enter (c := (match Tryd.f23.body with | some c => c | none => .skip)) Tryd.func23 (by kernel_rfl) (by kernel_rfl) _ _
theorem alloc_self (w : World) (o : Go.Obj) : (w.alloc o).heap[w.heap.size]? = some o := by unfold World.alloc; simp
theorem sv_pieces (w : World) (prot : Nat → Prop) (l : List (List UInt8)) :
    SV (w.alloc (.cells ((l.map fun x => Value.string (bs x)).toArray) 9)) (laidP prot w (w.alloc (.cells ((l.map fun x => Value.string (bs x)).toArray) 9))) (.slice (some ⟨w.heap.size, 0, none⟩) l.length l.length) (.sl (l.map fun x => [.str (bs x)])) := by
  refine .sl 1 (fun i _ => .string (bs (l.getD i []))) (by simp) (Nat.le_refl _) (fun i row hi => ?_) (fun _ => ⟨_, rfl, rfl, .inr ⟨Nat.le_refl _, by unfold World.alloc; simp⟩, fun i row j m hi hj => ?_⟩) (fun i row j m hi hj => ?_)
  · rw [List.getElem?_map] at hi
    obtain ⟨x, _, e⟩ := Option.map_eq_some_iff.1 hi
    rw [← e]; rfl
  · rw [List.getElem?_map] at hi
    obtain ⟨x, hx, e⟩ := Option.map_eq_some_iff.1 hi
    subst e
    cases j with
    | succ j => simp at hj
    | zero =>
      rw [cell_cells (alloc_self w _)]
      simp only [Nat.zero_add, Nat.mul_one, Nat.add_zero, List.getElem?_toArray, List.getElem?_map, hx, Option.map_some, List.getD_eq_getElem?_getD, Option.getD_some]
  · rw [List.getElem?_map] at hi
    obtain ⟨x, hx, e⟩ := Option.map_eq_some_iff.1 hi
    subst e
    cases j with
    | succ j => simp at hj
    | zero =>
      simp at hj; subst hj
      simp only [List.getD_eq_getElem?_getD, hx, Option.getD_some]
      exact .str _
theorem splR : RunOk Tryd.prog fun f' args imps => if f' = 23 then (splQ args).map fun m => (m, imps) else none := by
  refine ext_ok2 (q := splQ) (fun args m h => ?_) fun args m h vals w prot hp hv => ?_
  · unfold splQ at h
    split at h
    · rfl
    · cases h
  · unfold splQ at h
    split at h
    case h_2 => cases h
    rename_i s c
    split at h
    case isFalse => cases h
    rename_i hs
    cases h
    have hc : c = ⟨#[32]⟩ := by
      rw [← bs_data c, hs.1]; rfl
    have hv' : vals = #[.string s, .string c] := by
      obtain ⟨l⟩ := vals
      change Rl _ l _ at hv
      cases hv with
      | cons h1 h2 =>
        cases h2 with
        | cons h3 h4 => cases h4; cases h1; cases h3; rfl
    subst hv'
    subst hc
    refine upon_calls (enterSpl s _ w) ((split_at s w hs.2).mono fun e w' ⟨he, hw⟩ => ⟨_, he, ?_, ?_⟩)
    · subst hw
      exact .one (sv_pieces w prot _) rfl
    · subst hw
      exact (Below.refl _ w).alloc (Nat.le_refl _) _
end
end Kw
namespace Kw
set_option linter.unusedVariables false
set_option linter.unusedSimpArgs false
set_option linter.unusedSectionVars false
open Go Go.ChangeShapes Go.WideShapes Go.ChangeAt Go.RowKit
variable [Gl]
theorem u8_rng {n : Int} (h : (Lit.int .u8 n).wf = true) : 0 ≤ n ∧ n ≤ 255 := by
  simp [Lit.wf, IntKind.min, IntKind.max, IntKind.signed, IntKind.bits] at h
  omega
/-- a slice of bytes that came in -/
theorem open_u8s {H : Type} {enc : TypeId × Value → H} {P : Program} {W : World} {base : Nat} {t e : TypeId} {v : Value} {d : DataW H} {p : List MemPlace} (ht : P.underlying t = some (.slice e)) (he : P.underlying e = some (.int .u8)) (hc : P.cellsOf e = 1)
    (hval : Value.okWide P W .any base t v) (h : DataW.Trod enc P W 0 (fun _ => true) true t v d p) : ∃ l : List UInt8, SV W (there W) v (.sl (l.map fun x => [.int .u8 x.toNat])) := by
  obtain ⟨a1, len, cap, rfl⟩ := okWide_slice ht hval
  obtain ⟨fuel, hf⟩ := h
  rcases open_ints ht he hc hf with ⟨hcs, hx⟩ | ⟨a, len', cap', zs, hcs, _, hl, hm, hz, hx, hcell, hwz⟩
  · simp [Value.cells] at hcs
    obtain ⟨rfl, rfl, rfl⟩ := hcs
    exact ⟨[], .sl 1 (fun _ _ => .int .u8 0) rfl (Nat.le_refl _) (fun i row hi => by simp at hi) (fun h => absurd h (Nat.lt_irrefl 0)) (fun i row j m hi => by simp at hi)⟩
  · simp [Value.cells] at hcs
    obtain ⟨rfl, rfl, rfl⟩ := hcs
    simp only [Prod.mk.injEq] at hx
    obtain ⟨rfl, rfl⟩ := hx
    simp only [if_true] at hz
    have hlen : ((zs.take len).map fun n => UInt8.ofNat n.toNat).length = len := by simp; omega
    refine ⟨(zs.take len).map fun n => UInt8.ofNat n.toNat, ?_⟩
    by_cases h0 : len = 0
    · subst h0
      exact .sl 1 (fun _ _ => .int .u8 0) (by simp) hl (fun i row hi => by simp at hi) (fun h => absurd h (Nat.lt_irrefl 0)) (fun i row j m hi => by simp at hi)
    · have hc0 := hcell 0 (by omega)
      obtain ⟨ab, ao, spot⟩ := a
      have hspot : spot = none := by simpa [Addr.add] using World.cell?_spot hc0
      subst hspot
      have hin : ab < W.heap.size := by
        have := DataW.trod_lt _ _ _ _ hf (.cell ab ao) (by
          simp only [MemPlace.row, List.mem_map, List.mem_range]
          exact ⟨0, by omega, rfl⟩)
        exact this
      refine sv_bytes rfl hin hl _ hlen fun i x hi => ?_
      rw [List.getElem?_map] at hi
      obtain ⟨n, hn, e⟩ := Option.map_eq_some_iff.1 hi
      obtain ⟨hi', hn'⟩ := List.getElem?_eq_some_iff.1 hn
      have hil : i < zs.length := by simp at hi'; omega
      have hcj := hcell i hil
      rw [Addr.add_lit] at hcj
      rw [hcj, ← e]
      have en : zs.getD i 0 = n := by
        rw [← hn']; simp [List.getD, hil]
      rw [en]
      have hb := u8_rng (hwz n (by rw [← hn']; exact List.mem_of_mem_take (List.getElem_mem hi')))
      congr 2
      simp only [UInt8.toNat_ofNat']
      omega
end Kw
namespace Kw
set_option linter.unusedVariables false
set_option linter.unusedSimpArgs false
set_option linter.unusedSectionVars false
open Go Go.ChangeShapes Go.WideShapes Go.ChangeAt Go.RowKit
theorem lt_of_c {w : World} {a : Addr} {v : Value} (h : w.cell? a = some v) : a.block < w.heap.size := by
  rcases Nat.lt_or_ge a.block w.heap.size with h' | h'
  · exact h'
  · unfold World.cell? at h
    simp [Array.getElem?_eq_none h'] at h
/-- one of the laid variables -/
theorem laid_at {P : Program} {w : World} {n : String} {d : DataW Unit} : ∀ {l : List (String × DataW Unit)}, laidMet P l w → (n, d) ∈ l →
    ∃ g t cs fuel p, P.globalNamed n = some g ∧ (P.globals[g]?).map (·.type) = some t ∧ w.var? P n = some cs ∧ DataW.trod (fun _ => ()) P w 0 (fun _ => true) false fuel t cs.toList = some (d, p)
  | [], _, hm => by simp at hm
  | x :: l, h, hm => by
    rcases List.mem_cons.1 hm with e | e
    · subst e
      obtain ⟨ps, ⟨g, t, cs, fuel, p, q, h1, h2, h3, h4, _⟩, _⟩ := h
      exact ⟨g, t, cs, fuel, p, h1, h2, h3, h4⟩
    · exact laid_at h.tail e
/-- a variable that holds an error -/
theorem glob_err {P : Program} {w : World} {n nm : String} {d : DataW Unit} {l : List (String × DataW Unit)} {g t : Nat} {ms : Array (String × TypeId)} (h : laidMet P l w) (hm : (n, .iface nm d) ∈ l)
    (hg : P.globalNamed n = some g) (ht : (P.globals[g]?).map (·.type) = some t) (hi : P.underlying t = some (.interface ms)) :
    there w g ∧ ∃ x, w.cell? ⟨g, 0, none⟩ = some x ∧ SV w (there w) x (.iface false) := by
  obtain ⟨g', t', cs, fuel, p, h1, h2, h3, h4⟩ := laid_at h hm
  obtain rfl := Option.some.inj (hg.symm.trans h1)
  obtain rfl := Option.some.inj (ht.symm.trans h2)
  obtain ⟨_, u, v, e, _, _⟩ := iface_of_trod hi h4
  have hc : w.cell? ⟨g, 0, none⟩ = some (.iface u v) := by
    have := World.var?_cell hg h3 0
    rw [this]
    rw [← Array.getElem?_toList, e]; rfl
  exact ⟨lt_of_c hc, _, hc, .ifS u v⟩
/-- a variable that holds a list of texts -/
theorem glob_strs {P : Program} {w : World} {n : String} {l : List (String × DataW Unit)} {g t e : Nat} {ws : List (List UInt8)} (h : laidMet P l w) (hm : (n, .slice (ws.map fun s => .lit (.string s)) []) ∈ l)
    (hg : P.globalNamed n = some g) (ht : (P.globals[g]?).map (·.type) = some t) (hi : P.underlying t = some (.slice e)) (he : P.underlying e = some .string) (hc : P.cellsOf e = 1) :
    there w g ∧ ∃ x, w.cell? ⟨g, 0, none⟩ = some x ∧ SV w (there w) x (.sl (ws.map fun s => [.str (bs s)])) := by
  obtain ⟨g', t', cs, fuel, p, h1, h2, h3, h4⟩ := laid_at h hm
  obtain rfl := Option.some.inj (hg.symm.trans h1)
  obtain rfl := Option.some.inj (ht.symm.trans h2)
  obtain ⟨a, cap, ecs, hle, hel⟩ := open_row hi hc h4
  rw [List.length_map] at ecs hle
  have hce : w.cell? ⟨g, 0, none⟩ = some (.slice (some a) ws.length cap) := by
    have := World.var?_cell hg h3 0
    rw [this, ← Array.getElem?_toList, ecs]; rfl
  have key : ∀ (i : Nat) (s : List UInt8), ws[i]? = some s → w.cell? (a.add i) = some (.string (bs s)) := fun i s hs => by
    obtain ⟨v, m, q, hv, hd⟩ := hel i (.lit (.string s)) (by rw [List.getElem?_map, hs]; rfl)
    obtain ⟨b, e1, e2, _⟩ := DataW.trod_string he hd
    cases e1
    simp only [Prod.mk.injEq, DataW.lit.injEq, Lit.string.injEq] at e2
    rw [hv, e2.1, bs_data]
  refine ⟨lt_of_c hce, _, hce, .sl 1 (fun i _ => .string (bs (ws.getD i []))) (by simp) hle (fun i row hi => ?_) (fun h0 => ?_) (fun i row j m hi hj => ?_)⟩
  · rw [List.getElem?_map] at hi
    obtain ⟨x, _, e⟩ := Option.map_eq_some_iff.1 hi
    rw [← e]; rfl
  · have h0' : (ws[0]?) = some (ws[0]) := List.getElem?_eq_getElem h0
    have hc0 := key 0 _ h0'
    obtain ⟨ab, ao, spot⟩ := a
    have hspot : spot = none := by simpa [Addr.add] using World.cell?_spot hc0
    subst hspot
    refine ⟨_, rfl, rfl, lt_of_c hc0, fun i row j m hi hj => ?_⟩
    rw [List.getElem?_map] at hi
    obtain ⟨x, hx, e⟩ := Option.map_eq_some_iff.1 hi
    subst e
    cases j with
    | succ j => simp at hj
    | zero =>
      have := key i x hx
      rw [Addr.add_lit] at this
      simp only [Nat.mul_one, Nat.add_zero, List.getD_eq_getElem?_getD, hx, Option.getD_some]
      exact this
  · rw [List.getElem?_map] at hi
    obtain ⟨x, hx, e⟩ := Option.map_eq_some_iff.1 hi
    subst e
    cases j with
    | succ j => simp at hj
    | zero =>
      simp at hj; subst hj
      simp only [List.getD_eq_getElem?_getD, hx, Option.getD_some]
      exact .str _
end Kw
