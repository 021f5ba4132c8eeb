import Derived.Test.YtiogcgalhnjagaaGreatDoorW07
import Derived.Lib.ItoaNum
import Derived.Lib.Join
import Derived.Lib.SmallJoins
import Derived.Lib.SliceRun
import Derived.Deep.Upon
import Derived.Test.YtiogcgalhnjagaaGreatDoorV03
import Derived.Shelf.Strconv.Itoa3
import Derived.Shelf.Strings.OnBuilder
import Derived.Test.YtiogcgalhnjagaaGreatDoorProg
import Derived.Shelf.Strconv.Atoi
import Derived.Test.YtiogcgalhnjagaaGreatDoorW08
import Derived.WalkKit
import Derived.Tactics
import Derived.Lib.Walk
import Derived.KernelRfl
import Derived.Deep.RegionLaw
import Derived.Deep.LoopGhost
import Derived.Shelf.RegionOpenPlain
import Derived.Shelf.Strings.Count
import Derived.Shelf.Strings.Split
import Derived.Shelf.Slices.Clone
namespace Kw
open Go Go.RowKit
theorem one_arg {w : World} {prot : Nat → Prop} {vals : Array Value} {m : MV} (hv : Rl (fun v m => SV w prot v m) vals.toList [m]) : ∃ v, vals = #[v] ∧ SV w prot v m := by
  obtain ⟨l⟩ := vals
  change Rl _ l _ at hv
  cases hv with
  | cons h1 h2 => cases h2; exact ⟨_, rfl, h1⟩
theorem two_arg {w : World} {prot : Nat → Prop} {vals : Array Value} {m n : MV} (hv : Rl (fun v m => SV w prot v m) vals.toList [m, n]) : ∃ v u, vals = #[v, u] ∧ SV w prot v m ∧ SV w prot u n := by
  obtain ⟨l⟩ := vals
  change Rl _ l _ at hv
  cases hv with
  | cons h1 h2 => cases h2 with | cons h3 h4 => cases h4; exact ⟨_, _, rfl, h1, h3⟩
theorem clip_ok {P : Program} {K : FuncId} (enter : ∀ v w, (callFunc K #[v]).run P w = .ok (.enter K #[v]) w)
    (hs : ∀ (a : Addr) (n c : Nat), n ≤ c → ∀ w, Calls P K #[.slice (some a) n c] w fun e w' => e = .returned (.slice (some a) n n) ∧ w' = w)
    (hn : ∀ (c : Nat) (w : World), Calls P K #[.slice none 0 c] w fun e w' => e = .returned (.slice none 0 0) ∧ w' = w) :
    RunOk P fun f' args imps => if f' = K then (clipQ args).map fun m => (m, imps) else none := by
  refine ext_ok (q := clipQ) (fun args m h => ?_) fun args m h vals w prot hp hv => ?_
  · unfold clipQ at h
    split at h
    · rfl
    · cases h
  unfold clipQ at h
  split at h
  case h_2 => cases h
  cases h
  obtain ⟨v, e, hsv⟩ := one_arg hv
  subst e
  refine upon_calls (enter v w) ?_
  cases hsv with
  | @sl a n c rows sz vf hl hc hrow had hsv =>
    cases a with
    | none =>
      have h0 : n = 0 := by
        by_cases h0 : 0 < n
        · obtain ⟨ad, e, _⟩ := had h0; cases e
        · omega
      subst h0
      refine (hn c w).mono fun e w' ⟨he, hw⟩ => ⟨_, he, .one ?_ rfl, by rw [hw]; exact Below.refl _ w⟩
      subst hw
      exact .sl sz vf hl (Nat.le_refl _) hrow (fun h => absurd h (Nat.lt_irrefl 0)) hsv
    | some ad =>
      refine (hs ad n c hc w).mono fun e w' ⟨he, hw⟩ => ⟨_, he, .one ?_ rfl, by rw [hw]; exact Below.refl _ w⟩
      subst hw
      exact .sl sz vf hl (Nat.le_refl _) hrow had hsv
theorem dec_small (n : Int) (h0 : 0 ≤ n) (h1 : n < 100) : (⟨(Lib.decDigits n.toNat).toArray⟩ : ByteArray) = bs (if n < 10 then [(48 + n).toNat.toUInt8] else [(48 + n / 10).toNat.toUInt8, (48 + n % 10).toNat.toUInt8]) := by
  obtain ⟨k, rfl⟩ := Int.eq_ofNat_of_zero_le h0
  rw [Int.toNat_natCast]
  unfold bs
  congr 2
  unfold Lib.decDigits
  by_cases h : k < 10
  · rw [dif_pos h, if_pos (by omega)]
    congr 1
  · rw [dif_neg h, if_neg (by omega)]
    unfold Lib.decDigits
    rw [dif_pos (by omega)]
    have e1 : (48 + (k : Int) / 10).toNat = 48 + k / 10 := by omega
    have e2 : (48 + (k : Int) % 10).toNat = 48 + k % 10 := by omega
    rw [e1, e2]
    rfl
theorem itoa_ok {P : Program} {F : FuncId} (enter : ∀ v w, (callFunc F #[v]).run P w = .ok (.enter F #[v]) w)
    (hc : ∀ (i : Nat), i < 100 → ∀ w : World, Calls P F #[.int .i64 i] w fun e w' => e = .returned (.string ⟨(Lib.decDigits i).toArray⟩) ∧ w' = w) :
    RunOk P fun f' args imps => if f' = F then (itoaQ args).map fun m => (m, imps) else none := by
  refine ext_ok (q := itoaQ) (fun args m h => ?_) fun args m h vals w prot hp hv => ?_
  · unfold itoaQ at h
    split at h
    · rfl
    · cases h
  unfold itoaQ at h
  split at h
  case h_2 => cases h
  rename_i n
  split at h
  case isFalse => cases h
  rename_i hn
  cases h
  obtain ⟨v, e, hsv⟩ := one_arg hv
  subst e
  cases hsv
  refine upon_calls (enter _ w) ?_
  have h := hc n.toNat (by omega) w
  rw [Int.toNat_of_nonneg hn.1, dec_small n hn.1 hn.2] at h
  exact h.mono fun e w' ⟨he, hw⟩ => ⟨_, he, .one (.str _) rfl, by rw [hw]; exact Below.refl _ w⟩
theorem strRows_some : ∀ {rows : List Row} {l : List (List UInt8)}, strRows rows = some l → rows = l.map fun s => [.str (bs s)]
  | [], l, h => by cases h; rfl
  | [] :: _, l, h => by cases h
  | (_ :: _ :: _) :: _, l, h => by simp [strRows] at h
  | [m] :: r, l, h => by
    cases m <;> first | (cases h; done) | skip
    rename_i s
    simp only [strRows] at h
    obtain ⟨t, ht, e⟩ := Option.bind_eq_some_iff.1 h
    cases e
    rw [List.map_cons, ← strRows_some ht, bs_data]
theorem inter_nil : ∀ (l : List (List UInt8)), ([] : List UInt8).intercalate l = l.flatten := by
  intro l
  unfold List.intercalate
  induction l with
  | nil => rfl
  | cons a t ih =>
    cases t with
    | nil => rfl
    | cons b t => simp only [List.intersperse, List.flatten_cons, List.nil_append] at ih ⊢; rw [ih]
theorem join_ok {P : Program} {F : FuncId} (enter : ∀ v u w, (callFunc F #[v, u]).run P w = .ok (.enter F #[v, u]) w)
    (hc : ∀ (bk o c : Nat) (xs : List ByteArray) (sep : ByteArray) (w : World), (∀ (j : Nat) x, xs[j]? = some x → w.cell? ⟨bk, o + j, none⟩ = some (.string x)) → bk < w.heap.size → xs.length ≤ 140737488355328 → xs.length ≤ c → (Lib.join (xs.map (·.data.toList)) sep.data.toList).length ≤ 140737488355328 →
      Calls P F #[.slice (some ⟨bk, o, none⟩) xs.length c, .string sep] w fun e w' => e = .returned (.string ⟨(Lib.join (xs.map (·.data.toList)) sep.data.toList).toArray⟩) ∧ Below w.heap.size w w') :
    RunOk P fun f' args imps => if f' = F then (joinQ args).map fun m => (m, imps) else none := by
  refine ext_ok (q := joinQ) (fun args m h => ?_) fun args m h vals w prot hp hv => ?_
  · unfold joinQ at h
    split at h
    · rfl
    · cases h
  unfold joinQ at h
  split at h
  case h_2 => cases h
  rename_i rows sep
  obtain ⟨l, hl, h⟩ := Option.bind_eq_some_iff.1 h
  split at h
  case isFalse => cases h
  rename_i hh
  obtain ⟨hsep, hlen, htot, hpos⟩ := hh
  cases h
  obtain ⟨v, u, e, hsv, hsu⟩ := two_arg hv
  subst e
  cases hsu
  refine upon_calls (enter _ _ w) ?_
  have hrows := strRows_some hl
  cases hsv with
  | @sl a n c _ sz vf hn hcap hrow had hsv =>
    have hnl : l.length = n := by rw [← hn, hrows, List.length_map]
    obtain ⟨ad, ea, hsp, hpr, hcell⟩ := had (by omega)
    subst ea
    obtain ⟨b, off, spot⟩ := ad
    simp only at hsp
    subst hsp
    have hsz : sz = 1 := by
      have h0 : l[0]? = some (l[0]'hpos) := List.getElem?_eq_getElem hpos
      have h1 : rows[0]? = some [.str (bs (l[0]'hpos))] := by rw [hrows, List.getElem?_map, h0]; rfl
      exact (hrow 0 _ h1).symm
    subst hsz
    have h := hc b off c (l.map bs) sep w (fun j x hj => ?_) (hp _ hpr) (by simp; omega) (by simp; omega) ?_
    · rw [List.length_map, hnl] at h
      refine h.mono fun e w' ⟨he, hB⟩ => ⟨_, he, .one ?_ rfl, hB⟩
      have e1 : (l.map bs).map (·.data.toList) = l := by rw [List.map_map]; exact (List.map_congr_left (fun _ _ => rfl)).trans (List.map_id l)
      rw [e1, hsep]
      unfold Lib.join
      rw [inter_nil]
      exact .str _
    · rw [List.getElem?_map] at hj
      obtain ⟨s, hs, e⟩ := Option.map_eq_some_iff.1 hj
      subst e
      have h1 : rows[j]? = some [.str (bs s)] := by rw [hrows, List.getElem?_map, hs]; rfl
      have h2 := hcell j _ 0 _ h1 rfl
      have h3 := hsv j _ 0 _ h1 rfl
      rw [Nat.mul_one, Nat.add_zero] at h2
      rw [h2]
      generalize vf j 0 = z at h3
      cases h3; rfl
    · have e1 : (l.map bs).map (·.data.toList) = l := by rw [List.map_map]; exact (List.map_congr_left (fun _ _ => rfl)).trans (List.map_id l)
      rw [e1, hsep]
      unfold Lib.join
      rw [inter_nil]; omega
end Kw
namespace Kw
open Go Go.RowKit
/-- cells written one behind the other -/
def ow (arr : Array Value) : Nat → List Value → Array Value
  | _, [] => arr
  | o, v :: r => ow (arr.setIfInBounds o v) (o + 1) r
theorem ow_size : ∀ (vs : List Value) (arr : Array Value) (o : Nat), (ow arr o vs).size = arr.size
  | [], _, _ => rfl
  | v :: r, arr, o => by rw [ow, ow_size r]; simp
theorem ow_out : ∀ (vs : List Value) (arr : Array Value) (o k : Nat), k < o ∨ o + vs.length ≤ k → (ow arr o vs)[k]? = arr[k]?
  | [], _, _, _, _ => rfl
  | v :: r, arr, o, k, h => by
    rw [ow, ow_out r _ _ _ (by simp at h; omega)]
    exact Array.getElem?_setIfInBounds_ne (by simp at h; omega)
theorem ow_in : ∀ (vs : List Value) (arr : Array Value) (o k : Nat), k < vs.length → o + vs.length ≤ arr.size → (ow arr o vs)[o + k]? = vs[k]?
  | [], _, _, _, h, _ => by simp at h
  | v :: r, arr, o, k, h, hs => by
    simp only [List.length_cons] at h hs
    cases k with
    | zero =>
      rw [ow, ow_out r _ _ _ (by omega)]
      rw [Nat.add_zero, Array.getElem?_setIfInBounds_self_of_lt (by omega)]
      rfl
    | succ k =>
      rw [ow, show o + (k + 1) = o + 1 + k by omega, ow_in r _ _ k (by omega) (by simp; omega)]
      rfl
theorem setCells_cells {b : Nat} {ty : TypeId} {fz : Nat × Nat} : ∀ (vs : List Value) (o : Nat) (w : World) (arr : Array Value), w.heap[b]? = some (.cells arr ty fz) → (w.setCells b o vs).heap[b]? = some (.cells (ow arr o vs) ty fz)
  | [], _, _, _, h => h
  | v :: r, o, w, arr, h => by
    rw [World.setCells, ow]
    refine setCells_cells r (o + 1) _ _ ?_
    unfold World.setCell
    simp [Array.getElem?_modify, h]
theorem setCells_size {b : Nat} : ∀ (vs : List Value) (o : Nat) (w : World), (w.setCells b o vs).heap.size = w.heap.size
  | [], _, _ => rfl
  | v :: r, o, w => by rw [World.setCells, setCells_size r]; unfold World.setCell; simp
theorem setCells_other {b i : Nat} (hne : i ≠ b) : ∀ (vs : List Value) (o : Nat) (w : World), (w.setCells b o vs).heap[i]? = w.heap[i]?
  | [], _, _ => rfl
  | v :: r, o, w => by rw [World.setCells, setCells_other hne r]; unfold World.setCell; simp [Array.getElem?_modify, Ne.symm hne]
theorem setCells_rest {b : Nat} : ∀ (vs : List Value) (o : Nat) (w : World), (w.setCells b o vs).os = w.os ∧ (w.setCells b o vs).tape = w.tape ∧ (w.setCells b o vs).output = w.output
  | [], _, _ => ⟨rfl, rfl, rfl⟩
  | v :: r, o, w => by rw [World.setCells]; exact setCells_rest r (o + 1) (w.setCell ⟨b, o, none⟩ v)
theorem cell_of {w : World} {b o : Nat} {arr : Array Value} {ty : TypeId} {fz : Nat × Nat} (h : w.heap[b]? = some (.cells arr ty fz)) : w.cell? ⟨b, o, none⟩ = arr[o]? := by
  simp [World.cell?, h]
theorem frozen_of {w : World} {b o : Nat} {arr : Array Value} {ty : TypeId} (h : w.heap[b]? = some (.cells arr ty (0, 0))) : w.frozen? ⟨b, o, none⟩ = false := by
  simp [World.frozen?, h]
/-- clear(s) of elements of whatever many cells -/
theorem run_clear_rows {P : Program} (w : World) (t e ty : TypeId) (z : Value) (ht : P.underlying t = some (.slice e)) (hv : ∀ w, (zeroValue e).run P w = .ok z w) (h1 : ∀ v ∈ z.cells.toList, v.oneCell' = true) (hz : 0 < z.cells.size) (b o n c : Nat) (hn : 0 < n)
    (hc : ∀ j, j < n * z.cells.size → (w.cell? ⟨b, o + j, none⟩).isSome = true) (hf : ∀ j, j < n * z.cells.size → w.frozen? ⟨b, o + j, none⟩ = false) :
    (Builtin.clear_ #[t] ty #[.slice (some ⟨b, o, none⟩) n c]).run P w = .ok (.tuple #[]) (w.setCells b o (Builtin.zeroCells z.cells n).toList) := by
  have hl : (Builtin.zeroCells z.cells n).toList.length = n * z.cells.size := by simp [Builtin.zeroCells]
  have hst := run_storeCells_cells (P := P) b o (Builtin.zeroCells z.cells n).toList 0 w (by rw [hl]; simpa using hc) (by rw [hl]; simpa using hf) (by
    intro v hv'
    simp only [Builtin.zeroCells, Array.toList_map, List.mem_map] at hv'
    obtain ⟨i, _, e⟩ := hv'
    have hlt : i % z.cells.size < z.cells.size := Nat.mod_lt _ hz
    rw [getElem!_pos z.cells (i % z.cells.size) hlt] at e
    rw [← e]
    exact h1 _ (by simp))
  simp only [Nat.add_zero] at hst
  obtain ⟨m, rfl⟩ : ∃ m, n = m + 1 := ⟨n - 1, by omega⟩
  simp [Builtin.clear_, run_underlying ht, hv, hst]
/-- slices.Delete of elements of four cells -/
theorem del_ok {P : Program} {F : FuncId} (enter : ∀ v u x w, (callFunc F #[v, u, x]).run P w = .ok (.enter F #[v, u, x]) w)
    (hs : ∀ (b n cap i j : Nat) (arr : Array Value) (ty : TypeId) (w : World), w.heap[b]? = some (.cells arr ty (0, 0)) → n ≤ cap → i < j → j ≤ n → cap * 4 ≤ arr.size → (∀ (k : Nat) (u : Value), k < n * 4 → arr[k]? = some u → u.oneCell' = true) →
      Calls P F #[.slice (some ⟨b, 0, none⟩) n cap, .int .i64 i, .int .i64 j] w fun e w' => e = .returned (.slice (some ⟨b, 0, none⟩) (i + (n - j)) cap) ∧
        ∃ zl, w' = (w.drew.setCells b (i * 4) ((arr.toList.drop (j * 4)).take ((n - j) * 4))).setCells b ((i + (n - j)) * 4) zl) :
    RunOk P fun f' args imps => if f' = F then (delQ args).map fun m => (m, imps) else none := by
  intro f' args imps res vals w gs prot fa fo h p
  simp only at h
  split at h
  case isFalse => simp at h
  rename_i ef
  subst ef
  obtain ⟨m, hm, e⟩ := Option.map_eq_some_iff.1 h
  subst e
  unfold delQ at hm
  split at hm
  case h_2 => cases hm
  rename_i rows i0 j0
  split at hm
  case isFalse => cases hm
  rename_i hok
  cases hm
  rw [Bool.and_eq_true, decide_eq_true_eq] at hok
  obtain ⟨hok, hi0, hij, hj⟩ := hok
  obtain ⟨i, rfl⟩ := Int.eq_ofNat_of_zero_le hi0
  obtain ⟨j, rfl⟩ := Int.eq_ofNat_of_zero_le (show 0 ≤ j0 by omega)
  obtain ⟨vl⟩ := vals
  have pvs := p.vs
  change BVs _ _ w vl _ fa at pvs
  cases pvs with
  | @cons v _ f1 vs _ fs h1 ht =>
    obtain ⟨efs, hv⟩ := ht.im rfl
    subst efs
    cases hv with
    | cons h2 h3 =>
      cases h3 with
      | cons h3 h4 =>
        cases h4; cases h2; cases h3
        cases h1 with
        | one h1 =>
          cases h1 with
          | rv h => cases h; rename_i h; cases h
          | ownK0 => simp at hj; omega
          | @ownK b cap sz arr ty _ hh hn hroom hl hr =>
            have hlen : ∀ (i : Nat) (row : Row), rows[i]? = some row → row.length = 4 := fun i row hi => okR_iff.1 hok _ (List.mem_of_getElem? hi)
            have hsz : sz = 4 := by
              have h0 : rows[0]? = some (rows[0]'(by omega)) := List.getElem?_eq_getElem (by omega)
              rw [← (hr 0 _ h0).1, hlen 0 _ h0]
            subst hsz
            have hijn : i < j := by omega
            have hjn : j ≤ rows.length := by omega
            have hone : ∀ (k : Nat) (u : Value), k < rows.length * 4 → arr[k]? = some u → u.oneCell' = true := fun k u hk hu => by
              have hq : k / 4 < rows.length := by omega
              have h0 : rows[k / 4]? = some (rows[k / 4]'hq) := List.getElem?_eq_getElem hq
              have hl4 := hlen _ _ h0
              obtain ⟨x, hx, hsx⟩ := (hr _ _ h0).2 (k % 4) _ (List.getElem?_eq_getElem (by omega))
              rw [show k / 4 * 4 + k % 4 = k by omega, hu] at hx
              cases hx
              exact sv_one' hsx
            refine upon_calls (enter _ _ _ w) ((hs b rows.length cap i j arr ty w hh hl hijn hjn hroom.1 hone).mono fun e w' ⟨he, zl, hw⟩ => ⟨_, he, ?_⟩)
            have hnews : ((arr.toList.drop (j * 4)).take ((rows.length - j) * 4)).length = (rows.length - j) * 4 := by have := hroom.1; simp; omega
            generalize hnw : (arr.toList.drop (j * 4)).take ((rows.length - j) * 4) = news at hw hnews
            have hh' : w'.heap[b]? = some (.cells (ow (ow arr (i * 4) news) ((i + (rows.length - j)) * 4) zl) ty (0, 0)) := by
              rw [hw]; exact setCells_cells _ _ _ _ (setCells_cells _ _ _ _ hh)
            have hoth : ∀ x, x ≠ b → w'.heap[x]? = w.heap[x]? := fun x hx => by
              rw [hw, setCells_other hx, setCells_other hx]; rfl
            have hsize : w'.heap.size = w.heap.size := by rw [hw, setCells_size, setCells_size]; rfl
            have hrest : w'.os = w.os ∧ w'.tape = w.tape ∧ w'.output = w.output := by
              rw [hw]
              obtain ⟨a1, a2, a3⟩ := setCells_rest zl ((i + (rows.length - j)) * 4) (b := b) (w.drew.setCells b (i * 4) news)
              obtain ⟨b1, b2, b3⟩ := setCells_rest news (i * 4) (b := b) w.drew
              exact ⟨a1.trans b1, a2.trans b2, a3.trans b3⟩
            have hpb : ∀ x, prot x → w'.heap[x]? = w.heap[x]? := fun x hx => hoth x fun e => hn (by rw [← e]; exact hx)
            have hnl : (rows.take i ++ rows.drop j).length = i + (rows.length - j) := by simp; omega
            have hnb : b ∉ fo ++ blks gs := fun hm => by
              have := p.nod
              simp at this
              simp at hm
              exact hm.elim this.1.1 this.1.2
            have L : Later (gB gs prot) (gB gs prot) (cuB imps) (cuB imps) w w' :=
              ⟨fun _ _ e => .inl e, fun _ _ _ _ e => .inr ⟨Int.le_refl _, .inl e⟩, fun _ e => .inr ⟨Int.le_refl _, .inl e⟩, fun _ e => e, fun _ h => h, hpb⟩
            have hget : ∀ (q k : Nat), q < i + (rows.length - j) → k < 4 → (ow (ow arr (i * 4) news) ((i + (rows.length - j)) * 4) zl)[q * 4 + k]? = arr[(if q < i then q else q - i + j) * 4 + k]? := fun q k hq hk => by
              rw [ow_out _ _ _ _ (.inl (by omega))]
              by_cases hqi : q < i
              · rw [if_pos hqi, ow_out _ _ _ _ (.inl (by omega))]
              · rw [if_neg hqi, show q * 4 + k = i * 4 + ((q - i) * 4 + k) by omega, ow_in _ _ _ _ (by rw [hnews]; omega) (by have := hroom.1; rw [hnews]; omega), ← hnw, List.getElem?_take_of_lt (by omega), List.getElem?_drop, Array.getElem?_toList]
                congr 1; omega
            have hrow : ∀ (q : Nat) (row : Row), (rows.take i ++ rows.drop j)[q]? = some row → q < i + (rows.length - j) ∧ rows[if q < i then q else q - i + j]? = some row := fun q row hq => by
              have hlt := (List.getElem?_eq_some_iff.1 hq).1
              rw [hnl] at hlt
              refine ⟨hlt, ?_⟩
              by_cases hqi : q < i
              · rw [if_pos hqi, ← hq, List.getElem?_append_left (by simp; omega), List.getElem?_take_of_lt hqi]
              · rw [if_neg hqi, ← hq, List.getElem?_append_right (by simp; omega), List.getElem?_drop]
                congr 1; simp; omega
            refine ⟨[], prot, [b], fo, ?_, ?_, ?_, ?_, fun x hx => by rw [hsize]; exact p.plt x hx, ?_⟩
            · rw [List.append_nil, ← hnl]
              refine .one (.one (.ownK hh' hn ⟨by rw [ow_size, ow_size]; exact hroom.1, fun _ => .inr ⟨rfl, rfl⟩⟩ (by rw [hnl]; omega) fun q row hq => ?_)) (fun ms e => by cases e)
              obtain ⟨hq1, hq2⟩ := hrow q row hq
              refine ⟨hlen _ _ hq2, fun k mk hk => ?_⟩
              obtain ⟨x, hx, hsx⟩ := (hr _ _ hq2).2 k mk hk
              have hk4 : k < 4 := by have := (List.getElem?_eq_some_iff.1 hk).1; rw [hlen _ _ hq2] at this; exact this
              exact ⟨x, (hget q k hq1 hk4).trans hx, hsx.mono (fun _ h => h) hpb⟩
            · rw [List.append_nil]
              exact p.os.mono L (fun x hx => ⟨hoth x fun e => hnb (by simp [← e, hx]), p.os.np x hx⟩) fun y hy x e => ⟨hoth x fun e' => hnb (by rw [← e']; exact List.mem_append_right _ (mem_blks.2 ⟨y, hy, e⟩)), id⟩
            · rw [List.append_nil]; simpa using p.nod
            · rw [List.append_nil, hsize]; simpa using p.lt
            · rw [List.append_nil]
              refine ⟨hrest.1, hrest.2.1, hrest.2.2, Nat.le_of_eq hsize.symm, fun x _ hx => hoth x fun e => hx (by simp [e]), fun x hx => .inr (by simpa using hx), fun _ h => h, fun _ h => .inl h⟩
end Kw
namespace Kw
open Go
/-! several cells read, several cells written -/
def q0_billiss {R : Type} (a : List MV) (f : Bool → Int → List Row → List Row → Int → ByteArray → ByteArray → Option R) : Option R := bnd (gBool (cellAt a 0)) fun x0 => bnd (gInt IntKind.i64 (cellAt a 1)) fun x1 => bnd (gSl (cellAt a 2)) fun x2 => bnd (gSl (cellAt a 3)) fun x3 => bnd (gInt IntKind.i64 (cellAt a 4)) fun x4 => bnd (gStr (cellAt a 5)) fun x5 => bnd (gStr (cellAt a 6)) fun x6 => f x0 x1 x2 x3 x4 x5 x6
def q0_ii {R : Type} (a : List MV) (f : Int → Int → Option R) : Option R := bnd (gInt IntKind.i64 (cellAt a 0)) fun x0 => bnd (gInt IntKind.i64 (cellAt a 1)) fun x1 => f x0 x1
def q0_iiiiis {R : Type} (a : List MV) (f : Int → Int → Int → Int → Int → ByteArray → Option R) : Option R := bnd (gInt IntKind.i64 (cellAt a 0)) fun x0 => bnd (gInt IntKind.i64 (cellAt a 1)) fun x1 => bnd (gInt IntKind.i64 (cellAt a 2)) fun x2 => bnd (gInt IntKind.i64 (cellAt a 3)) fun x3 => bnd (gInt IntKind.i64 (cellAt a 4)) fun x4 => bnd (gStr (cellAt a 5)) fun x5 => f x0 x1 x2 x3 x4 x5
def q0_iiis {R : Type} (a : List MV) (f : Int → Int → Int → ByteArray → Option R) : Option R := bnd (gInt IntKind.i64 (cellAt a 0)) fun x0 => bnd (gInt IntKind.i64 (cellAt a 1)) fun x1 => bnd (gInt IntKind.i64 (cellAt a 2)) fun x2 => bnd (gStr (cellAt a 3)) fun x3 => f x0 x1 x2 x3
def q0_iiiss {R : Type} (a : List MV) (f : Int → Int → Int → ByteArray → ByteArray → Option R) : Option R := bnd (gInt IntKind.i64 (cellAt a 0)) fun x0 => bnd (gInt IntKind.i64 (cellAt a 1)) fun x1 => bnd (gInt IntKind.i64 (cellAt a 2)) fun x2 => bnd (gStr (cellAt a 3)) fun x3 => bnd (gStr (cellAt a 4)) fun x4 => f x0 x1 x2 x3 x4
def q0_iiss {R : Type} (a : List MV) (f : Int → Int → ByteArray → ByteArray → Option R) : Option R := bnd (gInt IntKind.i64 (cellAt a 0)) fun x0 => bnd (gInt IntKind.i64 (cellAt a 1)) fun x1 => bnd (gStr (cellAt a 2)) fun x2 => bnd (gStr (cellAt a 3)) fun x3 => f x0 x1 x2 x3
def q0_is {R : Type} (a : List MV) (f : Int → ByteArray → Option R) : Option R := bnd (gInt IntKind.i64 (cellAt a 0)) fun x0 => bnd (gStr (cellAt a 1)) fun x1 => f x0 x1
def q0_isis {R : Type} (a : List MV) (f : Int → ByteArray → Int → ByteArray → Option R) : Option R := bnd (gInt IntKind.i64 (cellAt a 0)) fun x0 => bnd (gStr (cellAt a 1)) fun x1 => bnd (gInt IntKind.i64 (cellAt a 2)) fun x2 => bnd (gStr (cellAt a 3)) fun x3 => f x0 x1 x2 x3
def q0_issiisllsssss {R : Type} (a : List MV) (f : Int → ByteArray → ByteArray → Int → Int → ByteArray → List Row → List Row → ByteArray → ByteArray → ByteArray → ByteArray → ByteArray → Option R) : Option R := bnd (gInt IntKind.i64 (cellAt a 0)) fun x0 => bnd (gStr (cellAt a 1)) fun x1 => bnd (gStr (cellAt a 2)) fun x2 => bnd (gInt IntKind.i64 (cellAt a 3)) fun x3 => bnd (gInt IntKind.i64 (cellAt a 4)) fun x4 => bnd (gStr (cellAt a 5)) fun x5 => bnd (gSl (cellAt a 6)) fun x6 => bnd (gSl (cellAt a 7)) fun x7 => bnd (gStr (cellAt a 8)) fun x8 => bnd (gStr (cellAt a 9)) fun x9 => bnd (gStr (cellAt a 10)) fun x10 => bnd (gStr (cellAt a 11)) fun x11 => bnd (gStr (cellAt a 12)) fun x12 => f x0 x1 x2 x3 x4 x5 x6 x7 x8 x9 x10 x11 x12
def q0_lb {R : Type} (a : List MV) (f : List Row → Bool → Option R) : Option R := bnd (gSl (cellAt a 0)) fun x0 => bnd (gBool (cellAt a 1)) fun x1 => f x0 x1
def q0_llllllllll {R : Type} (a : List MV) (f : List Row → List Row → List Row → List Row → List Row → List Row → List Row → List Row → List Row → List Row → Option R) : Option R := bnd (gSl (cellAt a 0)) fun x0 => bnd (gSl (cellAt a 1)) fun x1 => bnd (gSl (cellAt a 2)) fun x2 => bnd (gSl (cellAt a 3)) fun x3 => bnd (gSl (cellAt a 4)) fun x4 => bnd (gSl (cellAt a 5)) fun x5 => bnd (gSl (cellAt a 6)) fun x6 => bnd (gSl (cellAt a 7)) fun x7 => bnd (gSl (cellAt a 8)) fun x8 => bnd (gSl (cellAt a 9)) fun x9 => f x0 x1 x2 x3 x4 x5 x6 x7 x8 x9
def q0_okoooooooo {R : Type} (a : List MV) (f : List Row → List Row → List Row → List Row → List Row → List Row → List Row → List Row → List Row → List Row → Option R) : Option R := bnd (gOwn (cellAt a 0)) fun x0 => bnd (gOwnK (cellAt a 1)) fun x1 => bnd (gOwn (cellAt a 2)) fun x2 => bnd (gOwn (cellAt a 3)) fun x3 => bnd (gOwn (cellAt a 4)) fun x4 => bnd (gOwn (cellAt a 5)) fun x5 => bnd (gOwn (cellAt a 6)) fun x6 => bnd (gOwn (cellAt a 7)) fun x7 => bnd (gOwn (cellAt a 8)) fun x8 => bnd (gOwn (cellAt a 9)) fun x9 => f x0 x1 x2 x3 x4 x5 x6 x7 x8 x9
def q0_oooooooooo {R : Type} (a : List MV) (f : List Row → List Row → List Row → List Row → List Row → List Row → List Row → List Row → List Row → List Row → Option R) : Option R := bnd (gOwn (cellAt a 0)) fun x0 => bnd (gOwn (cellAt a 1)) fun x1 => bnd (gOwn (cellAt a 2)) fun x2 => bnd (gOwn (cellAt a 3)) fun x3 => bnd (gOwn (cellAt a 4)) fun x4 => bnd (gOwn (cellAt a 5)) fun x5 => bnd (gOwn (cellAt a 6)) fun x6 => bnd (gOwn (cellAt a 7)) fun x7 => bnd (gOwn (cellAt a 8)) fun x8 => bnd (gOwn (cellAt a 9)) fun x9 => f x0 x1 x2 x3 x4 x5 x6 x7 x8 x9
def q0_sb {R : Type} (a : List MV) (f : ByteArray → Bool → Option R) : Option R := bnd (gStr (cellAt a 0)) fun x0 => bnd (gBool (cellAt a 1)) fun x1 => f x0 x1
def q0_sil {R : Type} (a : List MV) (f : ByteArray → Int → List Row → Option R) : Option R := bnd (gStr (cellAt a 0)) fun x0 => bnd (gInt IntKind.i64 (cellAt a 1)) fun x1 => bnd (gSl (cellAt a 2)) fun x2 => f x0 x1 x2
def q0_ss {R : Type} (a : List MV) (f : ByteArray → ByteArray → Option R) : Option R := bnd (gStr (cellAt a 0)) fun x0 => bnd (gStr (cellAt a 1)) fun x1 => f x0 x1
def q1_sb {R : Type} (a : List MV) (f : ByteArray → Bool → Option R) : Option R := bnd (gStr (cellAt a 1)) fun x0 => bnd (gBool (cellAt a 2)) fun x1 => f x0 x1
def q2_is {R : Type} (a : List MV) (f : Int → ByteArray → Option R) : Option R := bnd (gInt IntKind.i64 (cellAt a 2)) fun x0 => bnd (gStr (cellAt a 3)) fun x1 => f x0 x1
def q2_iss {R : Type} (a : List MV) (f : Int → ByteArray → ByteArray → Option R) : Option R := bnd (gInt IntKind.i64 (cellAt a 2)) fun x0 => bnd (gStr (cellAt a 3)) fun x1 => bnd (gStr (cellAt a 4)) fun x2 => f x0 x1 x2
def q2_sii {R : Type} (a : List MV) (f : ByteArray → Int → Int → Option R) : Option R := bnd (gStr (cellAt a 2)) fun x0 => bnd (gInt IntKind.i64 (cellAt a 3)) fun x1 => bnd (gInt IntKind.i64 (cellAt a 4)) fun x2 => f x0 x1 x2
def q5_sl {R : Type} (a : List MV) (f : ByteArray → List Row → Option R) : Option R := bnd (gStr (cellAt a 5)) fun x0 => bnd (gSl (cellAt a 6)) fun x1 => f x0 x1
def q5_sll {R : Type} (a : List MV) (f : ByteArray → List Row → List Row → Option R) : Option R := bnd (gStr (cellAt a 5)) fun x0 => bnd (gSl (cellAt a 6)) fun x1 => bnd (gSl (cellAt a 7)) fun x2 => f x0 x1 x2
def q7_ls {R : Type} (a : List MV) (f : List Row → ByteArray → Option R) : Option R := bnd (gSl (cellAt a 7)) fun x0 => bnd (gStr (cellAt a 8)) fun x1 => f x0 x1
def q9_ssss {R : Type} (a : List MV) (f : ByteArray → ByteArray → ByteArray → ByteArray → Option R) : Option R := bnd (gStr (cellAt a 9)) fun x0 => bnd (gStr (cellAt a 10)) fun x1 => bnd (gStr (cellAt a 11)) fun x2 => bnd (gStr (cellAt a 12)) fun x3 => f x0 x1 x2 x3
def c_billiss (x0 : Bool) (x1 : Int) (x2 x3 : List Row) (x4 : Int) (x5 x6 : ByteArray) : List MV := [.bool x0, .int .i64 x1, .sl x2, .sl x3, .int .i64 x4, .str x5, .str x6]
def c_ii (x0 x1 : Int) : List MV := [.int .i64 x0, .int .i64 x1]
def c_iii (x0 x1 x2 : Int) : List MV := [.int .i64 x0, .int .i64 x1, .int .i64 x2]
def c_iiiiis (x0 x1 x2 x3 x4 : Int) (x5 : ByteArray) : List MV := [.int .i64 x0, .int .i64 x1, .int .i64 x2, .int .i64 x3, .int .i64 x4, .str x5]
def c_iiiss (x0 x1 x2 : Int) (x3 x4 : ByteArray) : List MV := [.int .i64 x0, .int .i64 x1, .int .i64 x2, .str x3, .str x4]
def c_iiss (x0 x1 : Int) (x2 x3 : ByteArray) : List MV := [.int .i64 x0, .int .i64 x1, .str x2, .str x3]
def c_il (x0 : Int) (x1 : List Row) : List MV := [.int .i64 x0, .sl x1]
def c_is (x0 : Int) (x1 : ByteArray) : List MV := [.int .i64 x0, .str x1]
def c_isis (x0 : Int) (x1 : ByteArray) (x2 : Int) (x3 : ByteArray) : List MV := [.int .i64 x0, .str x1, .int .i64 x2, .str x3]
def c_iss (x0 : Int) (x1 x2 : ByteArray) : List MV := [.int .i64 x0, .str x1, .str x2]
def c_issiisllsssss (x0 : Int) (x1 x2 : ByteArray) (x3 x4 : Int) (x5 : ByteArray) (x6 x7 : List Row) (x8 x9 x10 x11 x12 : ByteArray) : List MV := [.int .i64 x0, .str x1, .str x2, .int .i64 x3, .int .i64 x4, .str x5, .sl x6, .sl x7, .str x8, .str x9, .str x10, .str x11, .str x12]
def c_kii (x0 : List Row) (x1 x2 : Int) : List MV := [.ownK x0, .int .i64 x1, .int .i64 x2]
def c_li (x0 : List Row) (x1 : Int) : List MV := [.sl x0, .int .i64 x1]
def c_ll (x0 x1 : List Row) : List MV := [.sl x0, .sl x1]
def c_llllllllll (x0 x1 x2 x3 x4 x5 x6 x7 x8 x9 : List Row) : List MV := [.sl x0, .sl x1, .sl x2, .sl x3, .sl x4, .sl x5, .sl x6, .sl x7, .sl x8, .sl x9]
def c_lls (x0 x1 : List Row) (x2 : ByteArray) : List MV := [.sl x0, .sl x1, .str x2]
def c_ls (x0 : List Row) (x1 : ByteArray) : List MV := [.sl x0, .str x1]
def c_okoooooooo (x0 x1 x2 x3 x4 x5 x6 x7 x8 x9 : List Row) : List MV := [.own x0, .ownK x1, .own x2, .own x3, .own x4, .own x5, .own x6, .own x7, .own x8, .own x9]
def c_oooooooooo (x0 x1 x2 x3 x4 x5 x6 x7 x8 x9 : List Row) : List MV := [.own x0, .own x1, .own x2, .own x3, .own x4, .own x5, .own x6, .own x7, .own x8, .own x9]
def c_sb (x0 : ByteArray) (x1 : Bool) : List MV := [.str x0, .bool x1]
def c_si (x0 : ByteArray) (x1 : Int) : List MV := [.str x0, .int .i64 x1]
def c_sil (x0 : ByteArray) (x1 : Int) (x2 : List Row) : List MV := [.str x0, .int .i64 x1, .sl x2]
def c_sl (x0 : ByteArray) (x1 : List Row) : List MV := [.str x0, .sl x1]
def c_ss (x0 x1 : ByteArray) : List MV := [.str x0, .str x1]
end Kw
namespace Go.Proofs
open Go.Shelf
def Tryz.lays171_ren : Go.Shelf.Ren := ⟨fun | 171 => 62 | 243 => 114 | 246 => 168 | 283 => 187 | 284 => 188 | 285 => 189 | 286 => 190 | 129 => 203 | 317 => 202 | 318 => 204 | 319 => 205 | 320 => 206 | 337 => 214 | 338 => 215 | n => n, fun | 3 => 3 | 9 => 9 | 2 => 2 | 4 => 4 | 171 => 185 | 0 => 0 | 53 => 186 | 37 => 22 | 5 => 5 | 173 => 189 | 212 => 205 | 51 => 206 | 20 => 20 | 213 => 207 | 46 => 208 | 232 => 225 | 233 => 226 | n => n, fun | 17 => 0 | 18 => 2 | 19 => 3 | n => n⟩
theorem Tryz.lays171 : Go.Proofs.Lays.n171 Tryz.prog Tryz.lays171_ren := {
  mixed := by kernel_rfl
  f129 := Tryz.func203.trans (congrArg some (by kernel_rfl))
  f171 := Tryz.func62.trans (congrArg some (by kernel_rfl))
  f243 := Tryz.func114.trans (congrArg some (by kernel_rfl))
  f246 := Tryz.func168.trans (congrArg some (by kernel_rfl))
  f283 := Tryz.func187.trans (congrArg some (by kernel_rfl))
  f284 := Tryz.func188.trans (congrArg some (by kernel_rfl))
  f285 := Tryz.func189.trans (congrArg some (by kernel_rfl))
  f286 := Tryz.func190.trans (congrArg some (by kernel_rfl))
  f317 := Tryz.func202.trans (congrArg some (by kernel_rfl))
  f318 := Tryz.func204.trans (congrArg some (by kernel_rfl))
  f319 := Tryz.func205.trans (congrArg some (by kernel_rfl))
  f320 := Tryz.func206.trans (congrArg some (by kernel_rfl))
  f337 := Tryz.func214.trans (congrArg some (by kernel_rfl))
  f338 := Tryz.func215.trans (congrArg some (by kernel_rfl))
  t0 := Tryz.underlying0
  a0 := Tryz.isAgg0
  z0 := Tryz.sizeOf0
  v0 := Tryz.zeroValue0
  t2 := Tryz.underlying2
  a2 := Tryz.isAgg2
  z2 := Tryz.sizeOf2
  v2 := Tryz.zeroValue2
  t3 := Tryz.underlying3
  a3 := Tryz.isAgg3
  z3 := Tryz.sizeOf3
  v3 := Tryz.zeroValue3
  t4 := Tryz.underlying4
  a4 := Tryz.isAgg4
  z4 := Tryz.sizeOf4
  v4 := Tryz.zeroValue4
  t5 := Tryz.underlying5
  a5 := Tryz.isAgg5
  z5 := Tryz.sizeOf5
  v5 := Tryz.zeroValue5
  t9 := Tryz.underlying9
  a9 := Tryz.isAgg9
  z9 := Tryz.sizeOf9
  v9 := Tryz.zeroValue9
  t20 := Tryz.underlying20
  a20 := Tryz.isAgg20
  z20 := Tryz.sizeOf20
  v20 := Tryz.zeroValue20
  t37 := Tryz.underlying22
  a37 := Tryz.isAgg22
  z37 := Tryz.sizeOf22
  v37 := Tryz.zeroValue22
  t46 := Tryz.underlying208
  a46 := Tryz.isAgg208
  z46 := Tryz.sizeOf208
  v46 := Tryz.zeroValue208
  t51 := Tryz.underlying206
  a51 := Tryz.isAgg206
  z51 := Tryz.sizeOf206
  v51 := Tryz.zeroValue206
  t53 := Tryz.underlying186
  a53 := Tryz.isAgg186
  z53 := Tryz.sizeOf186
  v53 := Tryz.zeroValue186
  t171 := Tryz.underlying185
  a171 := Tryz.isAgg185
  z171 := Tryz.sizeOf185
  v171 := Tryz.zeroValue185
  t173 := Tryz.underlying189
  a173 := Tryz.isAgg189
  z173 := Tryz.sizeOf189
  v173 := Tryz.zeroValue189
  t212 := Tryz.underlying205
  a212 := Tryz.isAgg205
  z212 := Tryz.sizeOf205
  v212 := Tryz.zeroValue205
  t213 := Tryz.underlying207
  a213 := Tryz.isAgg207
  z213 := Tryz.sizeOf207
  t232 := Tryz.underlying225
  a232 := Tryz.isAgg225
  z232 := Tryz.sizeOf225
  v232 := Tryz.zeroValue225
  t233 := Tryz.underlying226
  a233 := Tryz.isAgg226
  z233 := Tryz.sizeOf226
  v233 := Tryz.zeroValue226
  g17 := by kernel_rfl
  g18 := by kernel_rfl
  g19 := by kernel_rfl }
open Go.RowKit Go.Lib in
theorem Tryz.strconv_Itoa_small (i : Nat) (hi : i < 100) (w : World) :
    Calls Tryz.prog 62 #[.int .i64 i] w fun e w' => e = .returned (.string ⟨(Lib.decDigits i).toArray⟩) ∧ w' = w := Any.strconv_Itoa_small Tryz.lays171 i hi w
def Tryz.lays156_ren : Go.Shelf.Ren := ⟨fun | 156 => 169 | 165 => 191 | 166 => 192 | 169 => 193 | 240 => 207 | 241 => 208 | 276 => 216 | 277 => 217 | n => n, fun | 31 => 27 | 9 => 9 | 3 => 3 | 4 => 4 | 0 => 0 | 20 => 20 | 72 => 193 | 76 => 197 | 70 => 191 | 37 => 22 | 75 => 196 | 127 => 210 | 164 => 215 | 5 => 5 | 80 => 199 | n => n, fun | n => n⟩
theorem Tryz.lays156 : Go.Proofs.Lays.n156 Tryz.prog Tryz.lays156_ren := {
  mixed := by kernel_rfl
  f156 := Tryz.func169.trans (congrArg some (by kernel_rfl))
  f165 := Tryz.func191.trans (congrArg some (by kernel_rfl))
  f166 := Tryz.func192.trans (congrArg some (by kernel_rfl))
  f169 := Tryz.func193.trans (congrArg some (by kernel_rfl))
  f240 := Tryz.func207.trans (congrArg some (by kernel_rfl))
  f241 := Tryz.func208.trans (congrArg some (by kernel_rfl))
  f276 := Tryz.func216.trans (congrArg some (by kernel_rfl))
  f277 := Tryz.func217.trans (congrArg some (by kernel_rfl))
  t0 := Tryz.underlying0
  a0 := Tryz.isAgg0
  z0 := Tryz.sizeOf0
  v0 := Tryz.zeroValue0
  t3 := Tryz.underlying3
  a3 := Tryz.isAgg3
  z3 := Tryz.sizeOf3
  v3 := Tryz.zeroValue3
  t4 := Tryz.underlying4
  a4 := Tryz.isAgg4
  z4 := Tryz.sizeOf4
  v4 := Tryz.zeroValue4
  t9 := Tryz.underlying9
  a9 := Tryz.isAgg9
  z9 := Tryz.sizeOf9
  v9 := Tryz.zeroValue9
  t20 := Tryz.underlying20
  a20 := Tryz.isAgg20
  z20 := Tryz.sizeOf20
  v20 := Tryz.zeroValue20
  t31 := Tryz.underlying27
  a31 := Tryz.isAgg27
  z31 := Tryz.sizeOf27
  v31 := Tryz.zeroValue27
  t37 := Tryz.underlying22
  a37 := Tryz.isAgg22
  z37 := Tryz.sizeOf22
  v37 := Tryz.zeroValue22
  t70 := Tryz.underlying191
  a70 := Tryz.isAgg191
  z70 := Tryz.sizeOf191
  v70 := Tryz.zeroValue191
  t72 := Tryz.underlying193
  a72 := Tryz.isAgg193
  z72 := Tryz.sizeOf193
  v72 := Tryz.zeroValue193
  t75 := Tryz.underlying196
  a75 := Tryz.isAgg196
  z75 := Tryz.sizeOf196
  v75 := Tryz.zeroValue196
  t76 := Tryz.underlying197
  a76 := Tryz.isAgg197
  z76 := Tryz.sizeOf197
  v76 := Tryz.zeroValue197
  t127 := Tryz.underlying210
  a127 := Tryz.isAgg210
  z127 := Tryz.sizeOf210
  v127 := Tryz.zeroValue210
  t164 := Tryz.underlying215
  a164 := Tryz.isAgg215
  z164 := Tryz.sizeOf215
  v164 := Tryz.zeroValue215 }
theorem Tryz.Builder_Extra_156 : Builder.Extra Tryz.prog Tryz.lays156_ren := {
  sizeBuilder := by kernel_rfl
  liesBuilder := by kernel_rfl
  t5 := Tryz.underlying5
  a5 := Tryz.isAgg5
  z5 := Tryz.sizeOf5
  v5 := Tryz.zeroValue5
  infoByte := by kernel_rfl
  cellsByte := by kernel_rfl
  sizeByte := by kernel_rfl
  neB5 := by decide }
open Go.RowKit Go.Lib in
theorem Tryz.strings_Join (bk o c : Nat) (xs : List ByteArray) (sep : ByteArray) (w : World) (hcells : ∀ (j : Nat) x, xs[j]? = some x → w.cell? ⟨bk, o + j, none⟩ = some (.string x)) (hbk : bk < w.heap.size) (hN : xs.length ≤ 140737488355328) (hcap : xs.length ≤ c) (hlen : (Lib.join (xs.map (·.data.toList)) sep.data.toList).length ≤ 140737488355328) :
    Calls Tryz.prog 169 #[.slice (some ⟨bk, o, none⟩) xs.length c, .string sep] w fun e w' => e = .returned (.string ⟨(Lib.join (xs.map (·.data.toList)) sep.data.toList).toArray⟩) ∧ Below w.heap.size w w' := Any.strings_Join Tryz.lays156 Tryz.Builder_Extra_156 bk o c xs sep w hcells hbk hN hcap hlen
end Go.Proofs
namespace Go.Proofs
open Go.Shelf
def Tryz.lays172_ren : Go.Shelf.Ren := ⟨fun | 172 => 194 | 244 => 209 | 245 => 210 | 247 => 218 | 279 => 219 | 280 => 220 | 281 => 221 | 282 => 222 | 287 => 229 | 316 => 230 | 171 => 62 | 205 => 231 | 321 => 234 | 322 => 235 | 243 => 114 | 246 => 168 | 283 => 187 | 284 => 188 | 285 => 189 | 286 => 190 | 129 => 203 | 317 => 202 | 318 => 204 | 319 => 205 | 320 => 206 | 337 => 214 | 338 => 215 | n => n, fun | 9 => 9 | 3 => 3 | 75 => 196 | 76 => 197 | 4 => 4 | 5 => 5 | 167 => 218 | 37 => 22 | 0 => 0 | 85 => 219 | 2 => 2 | 168 => 221 | 53 => 186 | 175 => 227 | 46 => 208 | 210 => 230 | 127 => 210 | 145 => 241 | 143 => 239 | 21 => 21 | 171 => 185 | 173 => 189 | 212 => 205 | 51 => 206 | 20 => 20 | 213 => 207 | 232 => 225 | 233 => 226 | 80 => 199 | n => n, fun | 15 => 4 | 16 => 5 | 17 => 0 | 18 => 2 | 19 => 3 | n => n⟩
theorem Tryz.lays172 : Go.Proofs.Lays.n172 Tryz.prog Tryz.lays172_ren := {
  mixed := by kernel_rfl
  f129 := Tryz.func203.trans (congrArg some (by kernel_rfl))
  f171 := Tryz.func62.trans (congrArg some (by kernel_rfl))
  f172 := Tryz.func194.trans (congrArg some (by kernel_rfl))
  f205 := Tryz.func231.trans (congrArg some (by kernel_rfl))
  f243 := Tryz.func114.trans (congrArg some (by kernel_rfl))
  f244 := Tryz.func209.trans (congrArg some (by kernel_rfl))
  f245 := Tryz.func210.trans (congrArg some (by kernel_rfl))
  f246 := Tryz.func168.trans (congrArg some (by kernel_rfl))
  f247 := Tryz.func218.trans (congrArg some (by kernel_rfl))
  f279 := Tryz.func219.trans (congrArg some (by kernel_rfl))
  f280 := Tryz.func220.trans (congrArg some (by kernel_rfl))
  f281 := Tryz.func221.trans (congrArg some (by kernel_rfl))
  f282 := Tryz.func222.trans (congrArg some (by kernel_rfl))
  f283 := Tryz.func187.trans (congrArg some (by kernel_rfl))
  f284 := Tryz.func188.trans (congrArg some (by kernel_rfl))
  f285 := Tryz.func189.trans (congrArg some (by kernel_rfl))
  f286 := Tryz.func190.trans (congrArg some (by kernel_rfl))
  f287 := Tryz.func229.trans (congrArg some (by kernel_rfl))
  f316 := Tryz.func230.trans (congrArg some (by kernel_rfl))
  f317 := Tryz.func202.trans (congrArg some (by kernel_rfl))
  f318 := Tryz.func204.trans (congrArg some (by kernel_rfl))
  f319 := Tryz.func205.trans (congrArg some (by kernel_rfl))
  f320 := Tryz.func206.trans (congrArg some (by kernel_rfl))
  f321 := Tryz.func234.trans (congrArg some (by kernel_rfl))
  f322 := Tryz.func235.trans (congrArg some (by kernel_rfl))
  f337 := Tryz.func214.trans (congrArg some (by kernel_rfl))
  f338 := Tryz.func215.trans (congrArg some (by kernel_rfl))
  t0 := Tryz.underlying0
  a0 := Tryz.isAgg0
  z0 := Tryz.sizeOf0
  v0 := Tryz.zeroValue0
  t2 := Tryz.underlying2
  a2 := Tryz.isAgg2
  z2 := Tryz.sizeOf2
  v2 := Tryz.zeroValue2
  t3 := Tryz.underlying3
  a3 := Tryz.isAgg3
  z3 := Tryz.sizeOf3
  v3 := Tryz.zeroValue3
  t4 := Tryz.underlying4
  a4 := Tryz.isAgg4
  z4 := Tryz.sizeOf4
  v4 := Tryz.zeroValue4
  t5 := Tryz.underlying5
  a5 := Tryz.isAgg5
  z5 := Tryz.sizeOf5
  v5 := Tryz.zeroValue5
  t9 := Tryz.underlying9
  a9 := Tryz.isAgg9
  z9 := Tryz.sizeOf9
  v9 := Tryz.zeroValue9
  t20 := Tryz.underlying20
  a20 := Tryz.isAgg20
  z20 := Tryz.sizeOf20
  v20 := Tryz.zeroValue20
  t21 := Tryz.underlying21
  a21 := Tryz.isAgg21
  z21 := Tryz.sizeOf21
  v21 := Tryz.zeroValue21
  t37 := Tryz.underlying22
  a37 := Tryz.isAgg22
  z37 := Tryz.sizeOf22
  v37 := Tryz.zeroValue22
  t46 := Tryz.underlying208
  a46 := Tryz.isAgg208
  z46 := Tryz.sizeOf208
  v46 := Tryz.zeroValue208
  t51 := Tryz.underlying206
  a51 := Tryz.isAgg206
  z51 := Tryz.sizeOf206
  v51 := Tryz.zeroValue206
  t53 := Tryz.underlying186
  a53 := Tryz.isAgg186
  z53 := Tryz.sizeOf186
  v53 := Tryz.zeroValue186
  t75 := Tryz.underlying196
  a75 := Tryz.isAgg196
  z75 := Tryz.sizeOf196
  v75 := Tryz.zeroValue196
  t76 := Tryz.underlying197
  a76 := Tryz.isAgg197
  z76 := Tryz.sizeOf197
  v76 := Tryz.zeroValue197
  t85 := Tryz.underlying219
  a85 := Tryz.isAgg219
  z85 := Tryz.sizeOf219
  v85 := Tryz.zeroValue219
  t127 := Tryz.underlying210
  a127 := Tryz.isAgg210
  z127 := Tryz.sizeOf210
  v127 := Tryz.zeroValue210
  t143 := Tryz.underlying239
  a143 := Tryz.isAgg239
  z143 := Tryz.sizeOf239
  v143 := Tryz.zeroValue239
  t145 := Tryz.underlying241
  a145 := Tryz.isAgg241
  z145 := Tryz.sizeOf241
  v145 := Tryz.zeroValue241
  t167 := Tryz.underlying218
  a167 := Tryz.isAgg218
  z167 := Tryz.sizeOf218
  v167 := Tryz.zeroValue218
  t168 := Tryz.underlying221
  a168 := Tryz.isAgg221
  z168 := Tryz.sizeOf221
  v168 := Tryz.zeroValue221
  t171 := Tryz.underlying185
  a171 := Tryz.isAgg185
  z171 := Tryz.sizeOf185
  v171 := Tryz.zeroValue185
  t173 := Tryz.underlying189
  a173 := Tryz.isAgg189
  z173 := Tryz.sizeOf189
  v173 := Tryz.zeroValue189
  t175 := Tryz.underlying227
  a175 := Tryz.isAgg227
  z175 := Tryz.sizeOf227
  v175 := Tryz.zeroValue227
  t210 := Tryz.underlying230
  a210 := Tryz.isAgg230
  z210 := Tryz.sizeOf230
  v210 := Tryz.zeroValue230
  t212 := Tryz.underlying205
  a212 := Tryz.isAgg205
  z212 := Tryz.sizeOf205
  v212 := Tryz.zeroValue205
  t213 := Tryz.underlying207
  a213 := Tryz.isAgg207
  z213 := Tryz.sizeOf207
  t232 := Tryz.underlying225
  a232 := Tryz.isAgg225
  z232 := Tryz.sizeOf225
  v232 := Tryz.zeroValue225
  t233 := Tryz.underlying226
  a233 := Tryz.isAgg226
  z233 := Tryz.sizeOf226
  v233 := Tryz.zeroValue226
  g15 := by kernel_rfl
  g16 := by kernel_rfl
  g17 := by kernel_rfl
  g18 := by kernel_rfl
  g19 := by kernel_rfl }
open Go.RowKit in
theorem Tryz.strconv_Atoi (s : ByteArray) (n : Int) (hl : s.size ≤ 18) (h : Lib.atoi s.data.toList = some n) (w : World) :
    Calls Tryz.prog 194 #[.string s] w fun e w' => e = .returned (.tuple #[.int .i64 n, .nilIface]) ∧ ∃ t, w' = Lib.bytesWorld w 5 t := Any.strconv_Atoi Tryz.lays172 s n hl h w
end Go.Proofs
namespace Kw
open Go Go.Proofs
def LexAt (i : Nat) : Prop := ∀ (fn : Func) (c : Code), Tryz.prog.funcs[i]? = some fn → fn.body = some c → lexAll c = true
theorem lex_at {i : Nat} {g : Func} (hf : Tryz.prog.funcs[i]? = some g) (hl : lexAll (body g) = true) : LexAt i := fun fn c h1 h2 => by
  rw [hf] at h1; cases h1; unfold body at hl; rw [h2] at hl; exact hl
theorem lex_3 : LexAt 3 := lex_at Tryz.func3 (by kernel_rfl)
theorem lex_4 : LexAt 4 := lex_at Tryz.func4 (by kernel_rfl)
theorem lex_5 : LexAt 5 := lex_at Tryz.func5 (by kernel_rfl)
theorem lex_6 : LexAt 6 := lex_at Tryz.func6 (by kernel_rfl)
theorem lex_7 : LexAt 7 := lex_at Tryz.func7 (by kernel_rfl)
theorem lex_8 : LexAt 8 := lex_at Tryz.func8 (by kernel_rfl)
theorem lex_9 : LexAt 9 := lex_at Tryz.func9 (by kernel_rfl)
theorem lex_10 : LexAt 10 := lex_at Tryz.func10 (by kernel_rfl)
theorem lex_11 : LexAt 11 := lex_at Tryz.func11 (by kernel_rfl)
theorem lex_12 : LexAt 12 := lex_at Tryz.func12 (by kernel_rfl)
theorem lex_13 : LexAt 13 := lex_at Tryz.func13 (by kernel_rfl)
theorem lex_14 : LexAt 14 := lex_at Tryz.func14 (by kernel_rfl)
theorem lex_15 : LexAt 15 := lex_at Tryz.func15 (by kernel_rfl)
theorem lex_16 : LexAt 16 := lex_at Tryz.func16 (by kernel_rfl)
theorem lex_17 : LexAt 17 := lex_at Tryz.func17 (by kernel_rfl)
theorem lex_18 : LexAt 18 := lex_at Tryz.func18 (by kernel_rfl)
theorem lex_19 : LexAt 19 := lex_at Tryz.func19 (by kernel_rfl)
theorem lex_20 : LexAt 20 := lex_at Tryz.func20 (by kernel_rfl)
theorem lex_21 : LexAt 21 := lex_at Tryz.func21 (by kernel_rfl)
theorem lex_22 : LexAt 22 := lex_at Tryz.func22 (by kernel_rfl)
theorem lex_23 : LexAt 23 := lex_at Tryz.func23 (by kernel_rfl)
theorem lex_24 : LexAt 24 := lex_at Tryz.func24 (by kernel_rfl)
theorem lex_25 : LexAt 25 := lex_at Tryz.func25 (by kernel_rfl)
theorem lex_26 : LexAt 26 := lex_at Tryz.func26 (by kernel_rfl)
theorem lex_27 : LexAt 27 := lex_at Tryz.func27 (by kernel_rfl)
theorem lex_28 : LexAt 28 := lex_at Tryz.func28 (by kernel_rfl)
theorem lex_29 : LexAt 29 := lex_at Tryz.func29 (by kernel_rfl)
theorem lex_30 : LexAt 30 := lex_at Tryz.func30 (by kernel_rfl)
theorem lex_31 : LexAt 31 := lex_at Tryz.func31 (by kernel_rfl)
theorem lex_32 : LexAt 32 := lex_at Tryz.func32 (by kernel_rfl)
theorem lex_33 : LexAt 33 := lex_at Tryz.func33 (by kernel_rfl)
theorem lex_34 : LexAt 34 := lex_at Tryz.func34 (by kernel_rfl)
theorem lex_35 : LexAt 35 := lex_at Tryz.func35 (by kernel_rfl)
theorem lex_36 : LexAt 36 := lex_at Tryz.func36 (by kernel_rfl)
theorem lex_37 : LexAt 37 := lex_at Tryz.func37 (by kernel_rfl)
theorem lex_38 : LexAt 38 := lex_at Tryz.func38 (by kernel_rfl)
theorem lex_39 : LexAt 39 := lex_at Tryz.func39 (by kernel_rfl)
theorem lex_40 : LexAt 40 := lex_at Tryz.func40 (by kernel_rfl)
theorem lex_41 : LexAt 41 := lex_at Tryz.func41 (by kernel_rfl)
theorem lex_42 : LexAt 42 := lex_at Tryz.func42 (by kernel_rfl)
theorem lex_43 : LexAt 43 := lex_at Tryz.func43 (by kernel_rfl)
theorem lex_44 : LexAt 44 := lex_at Tryz.func44 (by kernel_rfl)
theorem lex_47 : LexAt 47 := lex_at Tryz.func47 (by kernel_rfl)
theorem lex_48 : LexAt 48 := lex_at Tryz.func48 (by kernel_rfl)
theorem lex_49 : LexAt 49 := lex_at Tryz.func49 (by kernel_rfl)
theorem lex_50 : LexAt 50 := lex_at Tryz.func50 (by kernel_rfl)
theorem lex_51 : LexAt 51 := lex_at Tryz.func51 (by kernel_rfl)
theorem lex_52 : LexAt 52 := lex_at Tryz.func52 (by kernel_rfl)
theorem lex_53 : LexAt 53 := lex_at Tryz.func53 (by kernel_rfl)
theorem lex_54 : LexAt 54 := lex_at Tryz.func54 (by kernel_rfl)
theorem lex_55 : LexAt 55 := lex_at Tryz.func55 (by kernel_rfl)
theorem lex_56 : LexAt 56 := lex_at Tryz.func56 (by kernel_rfl)
theorem lex_57 : LexAt 57 := lex_at Tryz.func57 (by kernel_rfl)
theorem lex_58 : LexAt 58 := lex_at Tryz.func58 (by kernel_rfl)
theorem lex_59 : LexAt 59 := lex_at Tryz.func59 (by kernel_rfl)
theorem lex_60 : LexAt 60 := lex_at Tryz.func60 (by kernel_rfl)
theorem lex_61 : LexAt 61 := lex_at Tryz.func61 (by kernel_rfl)
theorem lex_63 : LexAt 63 := lex_at Tryz.func63 (by kernel_rfl)
theorem lex_64 : LexAt 64 := lex_at Tryz.func64 (by kernel_rfl)
theorem lex_65 : LexAt 65 := lex_at Tryz.func65 (by kernel_rfl)
theorem lex_66 : LexAt 66 := lex_at Tryz.func66 (by kernel_rfl)
theorem lex_67 : LexAt 67 := lex_at Tryz.func67 (by kernel_rfl)
theorem lex_68 : LexAt 68 := lex_at Tryz.func68 (by kernel_rfl)
theorem lex_69 : LexAt 69 := lex_at Tryz.func69 (by kernel_rfl)
theorem lex_70 : LexAt 70 := lex_at Tryz.func70 (by kernel_rfl)
theorem lex_71 : LexAt 71 := lex_at Tryz.func71 (by kernel_rfl)
theorem lex_72 : LexAt 72 := lex_at Tryz.func72 (by kernel_rfl)
theorem lex_73 : LexAt 73 := lex_at Tryz.func73 (by kernel_rfl)
theorem lex_74 : LexAt 74 := lex_at Tryz.func74 (by kernel_rfl)
theorem lex_75 : LexAt 75 := lex_at Tryz.func75 (by kernel_rfl)
theorem lex_76 : LexAt 76 := lex_at Tryz.func76 (by kernel_rfl)
theorem lex_77 : LexAt 77 := lex_at Tryz.func77 (by kernel_rfl)
theorem lex_78 : LexAt 78 := lex_at Tryz.func78 (by kernel_rfl)
theorem lex_79 : LexAt 79 := lex_at Tryz.func79 (by kernel_rfl)
theorem lex_80 : LexAt 80 := lex_at Tryz.func80 (by kernel_rfl)
theorem lex_93 : LexAt 93 := lex_at Tryz.func93 (by kernel_rfl)
theorem lex_94 : LexAt 94 := lex_at Tryz.func94 (by kernel_rfl)
theorem lex_95 : LexAt 95 := lex_at Tryz.func95 (by kernel_rfl)
theorem lex_96 : LexAt 96 := lex_at Tryz.func96 (by kernel_rfl)
theorem lex_97 : LexAt 97 := lex_at Tryz.func97 (by kernel_rfl)
theorem lex_98 : LexAt 98 := lex_at Tryz.func98 (by kernel_rfl)
theorem lex_99 : LexAt 99 := lex_at Tryz.func99 (by kernel_rfl)
theorem lex_100 : LexAt 100 := lex_at Tryz.func100 (by kernel_rfl)
theorem lex_101 : LexAt 101 := lex_at Tryz.func101 (by kernel_rfl)
theorem lex_102 : LexAt 102 := lex_at Tryz.func102 (by kernel_rfl)
theorem lex_103 : LexAt 103 := lex_at Tryz.func103 (by kernel_rfl)
theorem lex_104 : LexAt 104 := lex_at Tryz.func104 (by kernel_rfl)
theorem lex_105 : LexAt 105 := lex_at Tryz.func105 (by kernel_rfl)
theorem lex_107 : LexAt 107 := lex_at Tryz.func107 (by kernel_rfl)
theorem lex_108 : LexAt 108 := lex_at Tryz.func108 (by kernel_rfl)
theorem lex_109 : LexAt 109 := lex_at Tryz.func109 (by kernel_rfl)
theorem lex_110 : LexAt 110 := lex_at Tryz.func110 (by kernel_rfl)
theorem lex_111 : LexAt 111 := lex_at Tryz.func111 (by kernel_rfl)
theorem lex_112 : LexAt 112 := lex_at Tryz.func112 (by kernel_rfl)
theorem lex_113 : LexAt 113 := lex_at Tryz.func113 (by kernel_rfl)
theorem lex_115 : LexAt 115 := lex_at Tryz.func115 (by kernel_rfl)
theorem lex_116 : LexAt 116 := lex_at Tryz.func116 (by kernel_rfl)
theorem lex_117 : LexAt 117 := lex_at Tryz.func117 (by kernel_rfl)
theorem lex_118 : LexAt 118 := lex_at Tryz.func118 (by kernel_rfl)
theorem lex_119 : LexAt 119 := lex_at Tryz.func119 (by kernel_rfl)
theorem lex_120 : LexAt 120 := lex_at Tryz.func120 (by kernel_rfl)
theorem lex_121 : LexAt 121 := lex_at Tryz.func121 (by kernel_rfl)
theorem lex_122 : LexAt 122 := lex_at Tryz.func122 (by kernel_rfl)
theorem lex_123 : LexAt 123 := lex_at Tryz.func123 (by kernel_rfl)
theorem lex_124 : LexAt 124 := lex_at Tryz.func124 (by kernel_rfl)
theorem lex_125 : LexAt 125 := lex_at Tryz.func125 (by kernel_rfl)
theorem lex_126 : LexAt 126 := lex_at Tryz.func126 (by kernel_rfl)
theorem lex_127 : LexAt 127 := lex_at Tryz.func127 (by kernel_rfl)
theorem lex_128 : LexAt 128 := lex_at Tryz.func128 (by kernel_rfl)
theorem lex_129 : LexAt 129 := lex_at Tryz.func129 (by kernel_rfl)
theorem lex_148 : LexAt 148 := lex_at Tryz.func148 (by kernel_rfl)
theorem lex_149 : LexAt 149 := lex_at Tryz.func149 (by kernel_rfl)
theorem lex_150 : LexAt 150 := lex_at Tryz.func150 (by kernel_rfl)
theorem lex_151 : LexAt 151 := lex_at Tryz.func151 (by kernel_rfl)
theorem lex_152 : LexAt 152 := lex_at Tryz.func152 (by kernel_rfl)
theorem lex_153 : LexAt 153 := lex_at Tryz.func153 (by kernel_rfl)
theorem lex_154 : LexAt 154 := lex_at Tryz.func154 (by kernel_rfl)
theorem lex_155 : LexAt 155 := lex_at Tryz.func155 (by kernel_rfl)
theorem lex_156 : LexAt 156 := lex_at Tryz.func156 (by kernel_rfl)
theorem lex_157 : LexAt 157 := lex_at Tryz.func157 (by kernel_rfl)
theorem lex_158 : LexAt 158 := lex_at Tryz.func158 (by kernel_rfl)
theorem lex_159 : LexAt 159 := lex_at Tryz.func159 (by kernel_rfl)
theorem lex_160 : LexAt 160 := lex_at Tryz.func160 (by kernel_rfl)
theorem lex_162 : LexAt 162 := lex_at Tryz.func162 (by kernel_rfl)
theorem lex_163 : LexAt 163 := lex_at Tryz.func163 (by kernel_rfl)
theorem lex_164 : LexAt 164 := lex_at Tryz.func164 (by kernel_rfl)
theorem lex_165 : LexAt 165 := lex_at Tryz.func165 (by kernel_rfl)
theorem lex_167 : LexAt 167 := lex_at Tryz.func167 (by kernel_rfl)
theorem lex_170 : LexAt 170 := lex_at Tryz.func170 (by kernel_rfl)
theorem lex_171 : LexAt 171 := lex_at Tryz.func171 (by kernel_rfl)
theorem lex_176 : LexAt 176 := lex_at Tryz.func176 (by kernel_rfl)
theorem lex_177 : LexAt 177 := lex_at Tryz.func177 (by kernel_rfl)
theorem lex_178 : LexAt 178 := lex_at Tryz.func178 (by kernel_rfl)
theorem lex_179 : LexAt 179 := lex_at Tryz.func179 (by kernel_rfl)
theorem lex_180 : LexAt 180 := lex_at Tryz.func180 (by kernel_rfl)
theorem lex_181 : LexAt 181 := lex_at Tryz.func181 (by kernel_rfl)
theorem lex_185 : LexAt 185 := lex_at Tryz.func185 (by kernel_rfl)
theorem lex_195 : LexAt 195 := lex_at Tryz.func195 (by kernel_rfl)
theorem lex_all : ∀ i ∈ okL, LexAt i := List.forall_mem_cons.2 ⟨lex_3, List.forall_mem_cons.2 ⟨lex_4, List.forall_mem_cons.2 ⟨lex_5, List.forall_mem_cons.2 ⟨lex_6, List.forall_mem_cons.2 ⟨lex_7, List.forall_mem_cons.2 ⟨lex_8, List.forall_mem_cons.2 ⟨lex_9, List.forall_mem_cons.2 ⟨lex_10, List.forall_mem_cons.2 ⟨lex_11, List.forall_mem_cons.2 ⟨lex_12, List.forall_mem_cons.2 ⟨lex_13, List.forall_mem_cons.2 ⟨lex_14, List.forall_mem_cons.2 ⟨lex_15, List.forall_mem_cons.2 ⟨lex_16, List.forall_mem_cons.2 ⟨lex_17, List.forall_mem_cons.2 ⟨lex_18, List.forall_mem_cons.2 ⟨lex_19, List.forall_mem_cons.2 ⟨lex_20, List.forall_mem_cons.2 ⟨lex_21, List.forall_mem_cons.2 ⟨lex_22, List.forall_mem_cons.2 ⟨lex_23, List.forall_mem_cons.2 ⟨lex_24, List.forall_mem_cons.2 ⟨lex_25, List.forall_mem_cons.2 ⟨lex_26, List.forall_mem_cons.2 ⟨lex_27, List.forall_mem_cons.2 ⟨lex_28, List.forall_mem_cons.2 ⟨lex_29, List.forall_mem_cons.2 ⟨lex_30, List.forall_mem_cons.2 ⟨lex_31, List.forall_mem_cons.2 ⟨lex_32, List.forall_mem_cons.2 ⟨lex_33, List.forall_mem_cons.2 ⟨lex_34, List.forall_mem_cons.2 ⟨lex_35, List.forall_mem_cons.2 ⟨lex_36, List.forall_mem_cons.2 ⟨lex_37, List.forall_mem_cons.2 ⟨lex_38, List.forall_mem_cons.2 ⟨lex_39, List.forall_mem_cons.2 ⟨lex_40, List.forall_mem_cons.2 ⟨lex_41, List.forall_mem_cons.2 ⟨lex_42, List.forall_mem_cons.2 ⟨lex_43, List.forall_mem_cons.2 ⟨lex_44, List.forall_mem_cons.2 ⟨lex_47, List.forall_mem_cons.2 ⟨lex_48, List.forall_mem_cons.2 ⟨lex_49, List.forall_mem_cons.2 ⟨lex_50, List.forall_mem_cons.2 ⟨lex_51, List.forall_mem_cons.2 ⟨lex_52, List.forall_mem_cons.2 ⟨lex_53, List.forall_mem_cons.2 ⟨lex_54, List.forall_mem_cons.2 ⟨lex_55, List.forall_mem_cons.2 ⟨lex_56, List.forall_mem_cons.2 ⟨lex_57, List.forall_mem_cons.2 ⟨lex_58, List.forall_mem_cons.2 ⟨lex_59, List.forall_mem_cons.2 ⟨lex_60, List.forall_mem_cons.2 ⟨lex_61, List.forall_mem_cons.2 ⟨lex_63, List.forall_mem_cons.2 ⟨lex_64, List.forall_mem_cons.2 ⟨lex_65, List.forall_mem_cons.2 ⟨lex_66, List.forall_mem_cons.2 ⟨lex_67, List.forall_mem_cons.2 ⟨lex_68, List.forall_mem_cons.2 ⟨lex_69, List.forall_mem_cons.2 ⟨lex_70, List.forall_mem_cons.2 ⟨lex_71, List.forall_mem_cons.2 ⟨lex_72, List.forall_mem_cons.2 ⟨lex_73, List.forall_mem_cons.2 ⟨lex_74, List.forall_mem_cons.2 ⟨lex_75, List.forall_mem_cons.2 ⟨lex_76, List.forall_mem_cons.2 ⟨lex_77, List.forall_mem_cons.2 ⟨lex_78, List.forall_mem_cons.2 ⟨lex_79, List.forall_mem_cons.2 ⟨lex_80, List.forall_mem_cons.2 ⟨lex_93, List.forall_mem_cons.2 ⟨lex_94, List.forall_mem_cons.2 ⟨lex_95, List.forall_mem_cons.2 ⟨lex_96, List.forall_mem_cons.2 ⟨lex_97, List.forall_mem_cons.2 ⟨lex_98, List.forall_mem_cons.2 ⟨lex_99, List.forall_mem_cons.2 ⟨lex_100, List.forall_mem_cons.2 ⟨lex_101, List.forall_mem_cons.2 ⟨lex_102, List.forall_mem_cons.2 ⟨lex_103, List.forall_mem_cons.2 ⟨lex_104, List.forall_mem_cons.2 ⟨lex_105, List.forall_mem_cons.2 ⟨lex_107, List.forall_mem_cons.2 ⟨lex_108, List.forall_mem_cons.2 ⟨lex_109, List.forall_mem_cons.2 ⟨lex_110, List.forall_mem_cons.2 ⟨lex_111, List.forall_mem_cons.2 ⟨lex_112, List.forall_mem_cons.2 ⟨lex_113, List.forall_mem_cons.2 ⟨lex_115, List.forall_mem_cons.2 ⟨lex_116, List.forall_mem_cons.2 ⟨lex_117, List.forall_mem_cons.2 ⟨lex_118, List.forall_mem_cons.2 ⟨lex_119, List.forall_mem_cons.2 ⟨lex_120, List.forall_mem_cons.2 ⟨lex_121, List.forall_mem_cons.2 ⟨lex_122, List.forall_mem_cons.2 ⟨lex_123, List.forall_mem_cons.2 ⟨lex_124, List.forall_mem_cons.2 ⟨lex_125, List.forall_mem_cons.2 ⟨lex_126, List.forall_mem_cons.2 ⟨lex_127, List.forall_mem_cons.2 ⟨lex_128, List.forall_mem_cons.2 ⟨lex_129, List.forall_mem_cons.2 ⟨lex_148, List.forall_mem_cons.2 ⟨lex_149, List.forall_mem_cons.2 ⟨lex_150, List.forall_mem_cons.2 ⟨lex_151, List.forall_mem_cons.2 ⟨lex_152, List.forall_mem_cons.2 ⟨lex_153, List.forall_mem_cons.2 ⟨lex_154, List.forall_mem_cons.2 ⟨lex_155, List.forall_mem_cons.2 ⟨lex_156, List.forall_mem_cons.2 ⟨lex_157, List.forall_mem_cons.2 ⟨lex_158, List.forall_mem_cons.2 ⟨lex_159, List.forall_mem_cons.2 ⟨lex_160, List.forall_mem_cons.2 ⟨lex_162, List.forall_mem_cons.2 ⟨lex_163, List.forall_mem_cons.2 ⟨lex_164, List.forall_mem_cons.2 ⟨lex_165, List.forall_mem_cons.2 ⟨lex_167, List.forall_mem_cons.2 ⟨lex_170, List.forall_mem_cons.2 ⟨lex_171, List.forall_mem_cons.2 ⟨lex_176, List.forall_mem_cons.2 ⟨lex_177, List.forall_mem_cons.2 ⟨lex_178, List.forall_mem_cons.2 ⟨lex_179, List.forall_mem_cons.2 ⟨lex_180, List.forall_mem_cons.2 ⟨lex_181, List.forall_mem_cons.2 ⟨lex_185, List.forall_mem_cons.2 ⟨lex_195, fun _ h => absurd h List.not_mem_nil⟩⟩⟩⟩⟩⟩⟩⟩⟩⟩⟩⟩⟩⟩⟩⟩⟩⟩⟩⟩⟩⟩⟩⟩⟩⟩⟩⟩⟩⟩⟩⟩⟩⟩⟩⟩⟩⟩⟩⟩⟩⟩⟩⟩⟩⟩⟩⟩⟩⟩⟩⟩⟩⟩⟩⟩⟩⟩⟩⟩⟩⟩⟩⟩⟩⟩⟩⟩⟩⟩⟩⟩⟩⟩⟩⟩⟩⟩⟩⟩⟩⟩⟩⟩⟩⟩⟩⟩⟩⟩⟩⟩⟩⟩⟩⟩⟩⟩⟩⟩⟩⟩⟩⟩⟩⟩⟩⟩⟩⟩⟩⟩⟩⟩⟩⟩⟩⟩⟩⟩⟩⟩⟩⟩⟩⟩⟩⟩⟩⟩⟩⟩⟩⟩⟩⟩⟩⟩
theorem name_all : (Tryz.prog.funcs.toList.all fun fn => !(fn.name == "runtime.NumGoroutine")) = true := by kernel_rfl
theorem name_ok (f : FuncId) (fn : Func) (h : Tryz.prog.funcs[f]? = some fn) : (fn.name == "runtime.NumGoroutine") = false := by
  have hm : fn ∈ Tryz.prog.funcs.toList := by
    rw [← Array.getElem?_toList] at h; exact List.mem_of_getElem? h
  have := List.all_eq_true.1 name_all fn hm
  simpa using this
theorem mixed : Tryz.prog.follows .mixedOrders = true := by kernel_rfl
theorem lex_ok (f : FuncId) (fn : Func) (c : Code) (h1 : E.P.funcs[f]? = some fn) (h2 : fn.body = some c) (h3 : E.okf f = true) : lexAll c = true := lex_all f (List.contains_iff_mem.1 h3) fn c h1 h2
end Kw
namespace Kw
open Go Go.RowKit Go.Proofs Go.Joins
set_option maxRecDepth 100000
theorem clipR_136 : RunOk Tryz.prog fun f' args imps => if f' = 136 then (clipQ args).map fun m => (m, imps) else none :=
  @clip_ok _ 136 (fun v w => run_enter (c := (match Tryz.f136.body with | some c => c | none => .skip)) Tryz.func136 (by kernel_rfl) (by kernel_rfl) _ _) clip_136 clipN_136
theorem clipR_83 : RunOk Tryz.prog fun f' args imps => if f' = 83 then (clipQ args).map fun m => (m, imps) else none :=
  @clip_ok _ 83 (fun v w => run_enter (c := (match Tryz.f83.body with | some c => c | none => .skip)) Tryz.func83 (by kernel_rfl) (by kernel_rfl) _ _) clip_83 clipN_83
theorem itoaR : RunOk Tryz.prog fun f' args imps => if f' = 62 then (itoaQ args).map fun m => (m, imps) else none :=
  @itoa_ok _ 62 (fun v w => run_enter (c := (match Tryz.f62.body with | some c => c | none => .skip)) Tryz.func62 (by kernel_rfl) (by kernel_rfl) _ _) fun i hi w => Tryz.strconv_Itoa_small i hi w
theorem joinR : RunOk Tryz.prog fun f' args imps => if f' = 169 then (joinQ args).map fun m => (m, imps) else none :=
  @join_ok _ 169 (fun v u w => run_enter (c := (match Tryz.f169.body with | some c => c | none => .skip)) Tryz.func169 (by kernel_rfl) (by kernel_rfl) _ _) Tryz.strings_Join
theorem enterAtoi (s : ByteArray) (w : World) : (callFunc 194 #[.string s]).run Tryz.prog w = .ok (.enter 194 #[.string s]) w :=
  run_enter (c := (match Tryz.f194.body with | some c => c | none => .skip)) Tryz.func194 (by kernel_rfl) (by kernel_rfl) _ _
theorem atoiR : RunOk Tryz.prog fun f' args imps => if f' = 194 then (atoiQ args).map fun m => (m, imps) else none := by
  refine ext_ok (q := atoiQ) (fun args m h => ?_) fun args m h vals w prot hp hv => ?_
  · unfold atoiQ at h
    split at h
    · rfl
    · cases h
  · unfold atoiQ at h
    split at h
    · rename_i s
      split at h
      · rename_i hs
        split at h
        · rename_i n hn
          cases h
          obtain ⟨v, e, hsv⟩ := one_arg hv
          subst e
          cases hsv
          refine upon_calls (enterAtoi s w) ((Tryz.strconv_Atoi s n hs hn w).mono fun e w' ⟨he, t, ht⟩ => ⟨_, he, ?_, ?_⟩)
          · exact .tup (.cons (.int _ _) (.cons .ifN .nil))
          · rw [ht]; exact below_bytesWorld _ _ _ _ (Nat.le_refl _)
        · cases h
      · cases h
    · cases h
end Kw
namespace Kw
open Go Go.RowKit Go.Proofs Go.Shelf
set_option maxHeartbeats 4000000 in
set_option maxRecDepth 1000000 in
theorem del_161 (z : Value) (i0 : TypeInfo) (hi0 : Tryz.prog.info? 76 = some i0) (hz0 : i0.size = 4) (hv : ∀ w, (zeroValue 76).run Tryz.prog w = .ok z w) (hz : z.cells.size = 4) (hz1 : ∀ v ∈ z.cells.toList, v.oneCell' = true)
    (b n cap i j : Nat) (arr : Array Value) (ty : TypeId) (w : World) (hh : w.heap[b]? = some (.cells arr ty (0, 0))) (hcap : n ≤ cap) (hij : i < j) (hj : j ≤ n) (hsz : cap * 4 ≤ arr.size)
    (h1 : ∀ (k : Nat) (u : Value), k < n * 4 → arr[k]? = some u → u.oneCell' = true) :
    Calls Tryz.prog 161 #[.slice (some ⟨b, 0, none⟩) n cap, .int .i64 i, .int .i64 j] w fun e w' => e = .returned (.slice (some ⟨b, 0, none⟩) (i + (n - j)) cap) ∧
      w' = (w.drew.setCells b (i * 4) ((arr.toList.drop (j * 4)).take ((n - j) * 4))).setCells b ((i + (n - j)) * 4) (Builtin.zeroCells z.cells (n - (i + (n - j)))).toList := by
  obtain ⟨news, hnews⟩ : ∃ news, news = (arr.toList.drop (j * 4)).take ((n - j) * 4) := ⟨_, rfl⟩
  have hlen : news.length = (n - j) * 4 := by rw [hnews]; simp; omega
  have hget : ∀ t, t < (n - j) * 4 → news[t]? = arr[j * 4 + t]? := by
    intro t ht
    rw [hnews, List.getElem?_take_of_lt ht, List.getElem?_drop, Array.getElem?_toList]
  have hd : w.drew.heap[b]? = some (.cells arr ty (0, 0)) := hh
  obtain ⟨A, hA, hsrc⟩ : ∃ A : Addr, (if cap = j then some (⟨b, 0, none⟩ : Addr) else some ⟨b, j * 4, none⟩) = some A ∧ Hid (∀ t u, news[t]? = some u → w.drew.cell? (A.add t) = some u) := by
    by_cases h : cap = j
    · refine ⟨⟨b, 0, none⟩, by simp [h], fun t u hu => ?_⟩
      have h0 : news.length = 0 := by rw [hlen]; omega
      rw [List.length_eq_zero_iff.1 h0] at hu
      simp at hu
    · refine ⟨⟨b, j * 4, none⟩, by simp [h], fun t u hu => ?_⟩
      have ht : t < (n - j) * 4 := by
        have := (List.getElem?_eq_some_iff.1 hu).1
        rwa [hlen] at this
      rw [hget t ht] at hu
      rw [Addr.add_lit, cell_of hd]
      exact hu
  have s1 : Hid (news.length = (n - j) * 4) := hlen
  have s2 : Hid (∀ u ∈ news, u.oneCell' = true) := by
    intro u hu
    obtain ⟨t, ht, e⟩ := List.getElem_of_mem hu
    have ht' : t < (n - j) * 4 := by rw [← hlen]; exact ht
    have h2 := hget t ht'
    rw [List.getElem?_eq_getElem ht, e] at h2
    exact h1 _ _ (by omega) h2.symm
  have s3 : Hid (∀ t, t < news.length → (w.drew.cell? ⟨b, i * 4 + t, none⟩).isSome = true ∧ w.drew.frozen? ⟨b, i * 4 + t, none⟩ = false) := by
    intro t ht
    rw [hlen] at ht
    rw [cell_of hd, frozen_of hd]
    refine ⟨?_, rfl⟩
    rw [Array.getElem?_eq_getElem (by omega)]; rfl
  obtain ⟨W1, hW1⟩ : ∃ W1, W1 = w.drew.setCells b (i * 4) news := ⟨_, rfl⟩
  have hH1 : W1.heap[b]? = some (.cells (ow arr (i * 4) news) ty (0, 0)) := by rw [hW1]; exact setCells_cells _ _ _ _ hd
  obtain ⟨zl, hzl⟩ : ∃ zl, zl = (Builtin.zeroCells z.cells (n - (i + (n - j)))).toList := ⟨_, rfl⟩
  have hcl : ∀ ty, (Builtin.clear_ #[24] ty #[.slice (some ⟨b, (i + (n - j)) * 4, none⟩) (n - (i + (n - j))) (cap - (i + (n - j)))]).run Tryz.prog W1 = .ok (.tuple #[]) (W1.setCells b ((i + (n - j)) * 4) zl) :=
    fun ty => hzl ▸ run_clear_rows W1 _ 76 ty z Tryz.underlying24 hv hz1 (by omega) b ((i + (n - j)) * 4) _ _ (by omega) (fun t ht => by
      rw [hz] at ht
      rw [cell_of hH1, Array.getElem?_eq_getElem (by rw [ow_size]; omega)]; rfl) (fun t ht => frozen_of hH1)
  have hW : Hid (W1 = w.drew.setCells b (i * 4) news) := hW1
  have X0 : W1 = w.drew.setCells b (i * 4) ((arr.toList.drop (j * 4)).take ((n - j) * 4)) := by rw [hW1, hnews]
  have X : Aside (W1 = w.drew.setCells b (i * 4) ((arr.toList.drop (j * 4)).take ((n - j) * 4))) := X0
  clear X0
  have Y : Aside (zl = (Builtin.zeroCells z.cells (n - (i + (n - j)))).toList) := hzl
  clear hzl
  have hic : i ≤ cap := by omega
  have hjc : j ≤ cap := by omega
  have hjn : j ≤ n := hj
  clear hv hz hz1 hW1 hH1 hget hlen hh hd h1 hnews hsz
  have mixed : Tryz.prog.follows Departure.mixedOrders = true := by kernel_rfl
  go_enter Tryz.func161, Tryz.ntmps161
  go_wp2_with fail
  go_region_law_o (refine step_append_room rfl (.tmp 22) (.tmp 25) 24 rfl 76 i0 4 Tryz.underlying24 hi0 hz0 b 0 i cap (by simp [Act.eval, Act.put]) A (n - j) (cap - j) news (by simp [Act.eval, Act.put]) s1.out hsrc.out s2.out (by omega) (by rw [Nat.zero_add]; exact s3.out) ?_; rw [Nat.zero_add, ← hW.out])
  go_wp2
  go_ret
  exact ⟨rfl, by rw [X.out, Y.out]⟩
theorem enterDl (v u x : Value) (w : World) : (callFunc 161 #[v, u, x]).run Tryz.prog w = .ok (.enter 161 #[v, u, x]) w :=
  run_enter (c := (match Tryz.f161.body with | some c => c | none => .skip)) Tryz.func161 (by kernel_rfl) (by kernel_rfl) _ _
set_option maxRecDepth 100000 in
theorem delR : RunOk Tryz.prog fun f' args imps => if f' = 161 then (delQ args).map fun m => (m, imps) else none := by
  have hk : okT Tryz.prog 76 = true := by kernel_rfl
  have ht : tsize Tryz.prog 76 = 4 := by kernel_rfl
  have ho : (tzero Tryz.prog 76).all (·.oneCell') = true := by kernel_rfl
  obtain ⟨i0, z, hi, hz, hcz, hzs⟩ := zero_cells hk
  have h1 : i0.size = 4 := by
    have h : tsize Tryz.prog 76 = i0.size := by unfold tsize; rw [hi]
    exact h.symm.trans ht
  refine @del_ok _ _ enterDl fun b n cap i j arr ty w hh hcap hij hj hsz hone => ?_
  refine (del_161 z i0 hi h1 (fun w => ?_) (hzs.trans ht) (fun v hv => ?_) b n cap i j arr ty w hh hcap hij hj hsz hone).mono fun e w' ⟨he, hw⟩ => ⟨he, _, hw⟩
  · simp [zeroValue, typeInfo, hi, hz]
  · rw [hcz] at hv
    exact List.all_eq_true.1 ho v hv
end Kw
namespace Go.Proofs
open Go.Shelf
def Tryz.lays138_ren : Go.Shelf.Ren := ⟨fun | 138 => 182 | 195 => 196 | 218 => 197 | 143 => 198 | 219 => 211 | 217 => 223 | 225 => 224 | 224 => 225 | 267 => 226 | 266 => 232 | 314 => 233 | n => n, fun | 9 => 9 | 3 => 3 | 4 => 4 | 5 => 5 | 0 => 0 | 46 => 208 | 146 => 232 | 51 => 206 | n => n, fun | 1 => 1 | n => n⟩
theorem Tryz.lays138 : Go.Proofs.Lays.n138 Tryz.prog Tryz.lays138_ren := {
  mixed := by kernel_rfl
  f138 := Tryz.func182.trans (congrArg some (by kernel_rfl))
  f143 := Tryz.func198.trans (congrArg some (by kernel_rfl))
  f195 := Tryz.func196.trans (congrArg some (by kernel_rfl))
  f217 := Tryz.func223.trans (congrArg some (by kernel_rfl))
  f218 := Tryz.func197.trans (congrArg some (by kernel_rfl))
  f219 := Tryz.func211.trans (congrArg some (by kernel_rfl))
  f224 := Tryz.func225.trans (congrArg some (by kernel_rfl))
  f225 := Tryz.func224.trans (congrArg some (by kernel_rfl))
  f266 := Tryz.func232.trans (congrArg some (by kernel_rfl))
  f267 := Tryz.func226.trans (congrArg some (by kernel_rfl))
  f314 := Tryz.func233.trans (congrArg some (by kernel_rfl))
  t0 := Tryz.underlying0
  a0 := Tryz.isAgg0
  z0 := Tryz.sizeOf0
  v0 := Tryz.zeroValue0
  t3 := Tryz.underlying3
  a3 := Tryz.isAgg3
  z3 := Tryz.sizeOf3
  v3 := Tryz.zeroValue3
  t4 := Tryz.underlying4
  a4 := Tryz.isAgg4
  z4 := Tryz.sizeOf4
  v4 := Tryz.zeroValue4
  t5 := Tryz.underlying5
  a5 := Tryz.isAgg5
  z5 := Tryz.sizeOf5
  v5 := Tryz.zeroValue5
  t9 := Tryz.underlying9
  a9 := Tryz.isAgg9
  z9 := Tryz.sizeOf9
  v9 := Tryz.zeroValue9
  t46 := Tryz.underlying208
  a46 := Tryz.isAgg208
  z46 := Tryz.sizeOf208
  v46 := Tryz.zeroValue208
  t51 := Tryz.underlying206
  a51 := Tryz.isAgg206
  z51 := Tryz.sizeOf206
  v51 := Tryz.zeroValue206
  t146 := Tryz.underlying232
  a146 := Tryz.isAgg232
  z146 := Tryz.sizeOf232
  v146 := Tryz.zeroValue232
  g1 := by kernel_rfl }
open Go.RowKit Go.Lib in
theorem Tryz.strings_Count_one (s : ByteArray) (c : UInt8) (w : World) :
    Calls Tryz.prog 182 #[.string s, .string ⟨#[c]⟩] w fun e w' => e = .returned (.int .i64 (Lib.countByte s.data.toList c)) ∧ w' = w := Any.strings_Count_one Tryz.lays138 s c w
end Go.Proofs
namespace Kw
open Go Go.RowKit Go.Proofs
set_option maxRecDepth 100000
theorem enterCn (s c : ByteArray) (w : World) : (callFunc 182 #[.string s, .string c]).run Tryz.prog w = .ok (.enter 182 #[.string s, .string c]) w :=
  run_enter (c := (match Tryz.f182.body with | some c => c | none => .skip)) Tryz.func182 (by kernel_rfl) (by kernel_rfl) _ _
theorem countR : RunOk Tryz.prog fun f' args imps => if f' = 182 then (countQ args).map fun m => (m, imps) else none := by
  refine ext_ok (q := countQ) (fun args m h => ?_) fun args m h vals w prot hp hv => ?_
  · unfold countQ at h
    split at h
    · rfl
    · cases h
  · unfold countQ at h
    split at h
    case h_2 => cases h
    rename_i s c
    split at h
    case h_2 => cases h
    rename_i b hb
    cases h
    have hc : c = ⟨#[b]⟩ := by
      obtain ⟨⟨l⟩⟩ := c
      have : l = [b] := hb
      subst this; rfl
    subst hc
    have hv' : vals = #[.string s, .string ⟨#[b]⟩] := by
      obtain ⟨l⟩ := vals
      change Rl _ l _ at hv
      cases hv with
      | cons h1 h2 => cases h2 with | cons h2 h3 => cases h3; cases h1; cases h2; rfl
    subst hv'
    refine upon_calls (enterCn s _ w) ((Tryz.strings_Count_one s b w).mono fun e w' ⟨he, hw⟩ => ⟨_, he, .one ?_ rfl, by rw [hw]; exact Below.refl _ w⟩)
    have e : Lib.countByte s.data.toList b = s.data.toList.count b := by
      first | rfl | simp [Lib.countByte, List.count] | (unfold Lib.countByte; rfl)
    rw [e]; exact .int _ _
end Kw
namespace Go.Proofs
open Go.Shelf
def Tryz.lays221_ren : Go.Shelf.Ren := ⟨fun | 221 => 186 | 268 => 201 | 138 => 182 | 143 => 198 | 195 => 196 | 197 => 213 | 218 => 197 | 219 => 211 | 260 => 228 | 217 => 223 | 225 => 224 | 224 => 225 | 267 => 226 | 266 => 232 | 314 => 233 | n => n, fun | 9 => 9 | 3 => 3 | 31 => 27 | 4 => 4 | 0 => 0 | 105 => 212 | 21 => 21 | 5 => 5 | 46 => 208 | 119 => 234 | 139 => 237 | 138 => 236 | 146 => 232 | 51 => 206 | n => n, fun | 1 => 1 | 3 => 6 | 4 => 7 | n => n⟩
theorem Tryz.lays221 : Go.Proofs.Lays.n221 Tryz.prog Tryz.lays221_ren := {
  mixed := by kernel_rfl
  f138 := Tryz.func182.trans (congrArg some (by kernel_rfl))
  f143 := Tryz.func198.trans (congrArg some (by kernel_rfl))
  f195 := Tryz.func196.trans (congrArg some (by kernel_rfl))
  f197 := Tryz.func213.trans (congrArg some (by kernel_rfl))
  f217 := Tryz.func223.trans (congrArg some (by kernel_rfl))
  f218 := Tryz.func197.trans (congrArg some (by kernel_rfl))
  f219 := Tryz.func211.trans (congrArg some (by kernel_rfl))
  f221 := Tryz.func186.trans (congrArg some (by kernel_rfl))
  f224 := Tryz.func225.trans (congrArg some (by kernel_rfl))
  f225 := Tryz.func224.trans (congrArg some (by kernel_rfl))
  f260 := Tryz.func228.trans (congrArg some (by kernel_rfl))
  f266 := Tryz.func232.trans (congrArg some (by kernel_rfl))
  f267 := Tryz.func226.trans (congrArg some (by kernel_rfl))
  f268 := Tryz.func201.trans (congrArg some (by kernel_rfl))
  f314 := Tryz.func233.trans (congrArg some (by kernel_rfl))
  t0 := Tryz.underlying0
  a0 := Tryz.isAgg0
  z0 := Tryz.sizeOf0
  v0 := Tryz.zeroValue0
  t3 := Tryz.underlying3
  a3 := Tryz.isAgg3
  z3 := Tryz.sizeOf3
  v3 := Tryz.zeroValue3
  t4 := Tryz.underlying4
  a4 := Tryz.isAgg4
  z4 := Tryz.sizeOf4
  v4 := Tryz.zeroValue4
  t5 := Tryz.underlying5
  a5 := Tryz.isAgg5
  z5 := Tryz.sizeOf5
  v5 := Tryz.zeroValue5
  t9 := Tryz.underlying9
  a9 := Tryz.isAgg9
  z9 := Tryz.sizeOf9
  v9 := Tryz.zeroValue9
  t21 := Tryz.underlying21
  a21 := Tryz.isAgg21
  z21 := Tryz.sizeOf21
  v21 := Tryz.zeroValue21
  t31 := Tryz.underlying27
  a31 := Tryz.isAgg27
  z31 := Tryz.sizeOf27
  v31 := Tryz.zeroValue27
  t46 := Tryz.underlying208
  a46 := Tryz.isAgg208
  z46 := Tryz.sizeOf208
  v46 := Tryz.zeroValue208
  t51 := Tryz.underlying206
  a51 := Tryz.isAgg206
  z51 := Tryz.sizeOf206
  v51 := Tryz.zeroValue206
  t105 := Tryz.underlying212
  a105 := Tryz.isAgg212
  z105 := Tryz.sizeOf212
  v105 := Tryz.zeroValue212
  t119 := Tryz.underlying234
  a119 := Tryz.isAgg234
  z119 := Tryz.sizeOf234
  t138 := Tryz.underlying236
  a138 := Tryz.isAgg236
  z138 := Tryz.sizeOf236
  v138 := Tryz.zeroValue236
  t139 := Tryz.underlying237
  a139 := Tryz.isAgg237
  z139 := Tryz.sizeOf237
  v139 := Tryz.zeroValue237
  t146 := Tryz.underlying232
  a146 := Tryz.isAgg232
  z146 := Tryz.sizeOf232
  v146 := Tryz.zeroValue232
  g1 := by kernel_rfl
  g3 := by kernel_rfl
  g4 := by kernel_rfl }
def Tryz.laysNm216_ren : Go.Shelf.Ren := ⟨fun | 16 => 84 | n => n, fun | 24 => 27 | 9 => 9 | 4 => 4 | n => n, fun | n => n⟩
theorem Tryz.laysNm216 : Go.Proofs.Lays2.n16 Tryz.prog Tryz.laysNm216_ren := {
  mixed := by kernel_rfl
  f16 := Tryz.func84.trans (congrArg some (by kernel_rfl))
  t4 := Tryz.underlying4
  a4 := Tryz.isAgg4
  z4 := Tryz.sizeOf4
  v4 := Tryz.zeroValue4
  t9 := Tryz.underlying9
  a9 := Tryz.isAgg9
  z9 := Tryz.sizeOf9
  v9 := Tryz.zeroValue9
  t24 := Tryz.underlying27
  a24 := Tryz.isAgg27
  z24 := Tryz.sizeOf27
  v24 := Tryz.zeroValue27
  i9 := by kernel_rfl }
open Go.RowKit Go.Lib in
theorem Tryz.slices_Clone_string (b off n c : Nat) (zs : List ByteArray) (w : World) (hz : n ≤ zs.length) (hbig : n * 16 ≤ 140737488355328) (hc : ∀ j, j < zs.length → w.cell? ⟨b, off + j, none⟩ = some (.string (zs.getD j ByteArray.empty))) :
    Calls Tryz.prog 84 #[.slice (some ⟨b, off, none⟩) n c] w fun e w' => ∃ v', e = .returned v' ∧ w'.ownsRow w.heap.size 9 1 v' n ((zs.take n).map (Value.string)) ∧ v' ≠ .slice none 0 0 ∧ Below w.heap.size w w' := Any.slices_Clone_string Tryz.laysNm216 b off n c zs w hz hbig hc
open Go.RowKit Go.Lib in
theorem Tryz.slices_Clone_string_zero (a : Addr) (c : Nat) (w : World) :
    Calls Tryz.prog 84 #[.slice (some a) 0 c] w fun e w' => ∃ v', e = .returned v' ∧ w'.ownsRow w.heap.size 9 1 v' 0 [] ∧ v' ≠ .slice none 0 0 ∧ Below w.heap.size w w' := Any.slices_Clone_string_zero Tryz.laysNm216 a c w
end Go.Proofs
namespace Kw
open Go Go.RowKit Go.Proofs Go.Shelf
set_option maxRecDepth 100000
theorem hi9 : (Tryz.prog.info? (Tryz.lays221_ren.t 9)).map (fun i => (i.zero, i.size, i.bytes)) = some (some (.string ByteArray.empty), 1, 16) := by kernel_rfl
theorem genSplit_at (s : ByteArray) (w : World) (hs : s.size ≤ 2000000) :
    Calls Tryz.prog 186 #[.string s, .string ⟨#[59]⟩, .int .i64 1, .int .i64 (-1)] w fun e w' =>
      e = .returned (.slice (some ⟨w.heap.size, 0, none⟩) ((cutS [] s.data.toList).length + 1) ((cutS [] s.data.toList).length + 1)) ∧
      w' = w.alloc (.cells (((cutS [] s.data.toList ++ [restS [] s.data.toList]).map fun x => Value.string (bs x)).toArray) 9) := by
  have hc : Lib.countB s ⟨#[59]⟩ = (cutS [] s.data.toList).length := by
    show Lib.count s.data.toList [59] = _
    rw [Lib.count_one, cutS_count]
  have hC : Calls Tryz.prog 182 #[.string s, .string ⟨#[59]⟩] w fun e w' => e = .returned (.int .i64 (Lib.countB s ⟨#[59]⟩)) ∧ w' = w := by
    refine (Any.strings_Count_one (ρ := Tryz.lays221_ren) { Tryz.lays221 with } s 59 w).mono fun e w' ⟨he, hw⟩ => ⟨?_, hw⟩
    rw [he]
    show _ = Ending.returned (Value.int .i64 ((Lib.count s.data.toList [59] : Nat) : Int))
    rw [Lib.count_one]
    rfl
  have hI : ∀ (x : ByteArray) (c : Array Value), x.size ≤ s.size → Calls Tryz.prog 198 #[.string x, .string ⟨#[59]⟩] (w.alloc (.cells c 9)) fun e w' => e = .returned (.int .i64 (Lib.indexB x ⟨#[59]⟩)) ∧ w' = w.alloc (.cells c 9) := fun x c _ => by
    refine (Any.strings_Index_one (ρ := Tryz.lays221_ren) { Tryz.lays221 with } x 59 _).mono fun e w' ⟨he, hw⟩ => ⟨?_, hw⟩
    rw [he]
    show _ = Ending.returned (Value.int .i64 (Lib.index x.data.toList [59]))
    rw [Lib.index_one]
  have hle : (cutS [] s.data.toList).length ≤ s.size := by
    rw [cutS_count]
    exact List.count_le_length
  have h := Any.strings_genSplit_core Tryz.lays221 hi9 s ⟨#[59]⟩ 1 (-1) ((cutS [] s.data.toList).length + 1) w (by omega) (by decide) (by decide) hI hC (by decide) (by decide) (by rw [if_pos (by decide), hc]; omega)
  have e1 : Lib.splitB ⟨#[59]⟩ 1 ((cutS [] s.data.toList).length + 1 - 1) s = (cutS [] s.data.toList ++ [restS [] s.data.toList]).map bs := by
    rw [Nat.add_sub_cancel, ← splitB_cut, ← hc]
    show Lib.splitB _ _ (Lib.count s.data.toList [59]) s = _
    rw [Lib.count_one]
    rfl
  rw [e1] at h
  have e2 : ((cutS [] s.data.toList ++ [restS [] s.data.toList]).map bs).length = (cutS [] s.data.toList).length + 1 := by simp
  have e3 : Lib.cellsOf ((cutS [] s.data.toList ++ [restS [] s.data.toList]).map bs) ((cutS [] s.data.toList).length + 1) = ((cutS [] s.data.toList ++ [restS [] s.data.toList]).map fun x => Value.string (bs x)).toArray := by
    rw [← e2, Lib.cellsOf_full, List.map_map]; rfl
  rw [e2, e3] at h
  exact h
theorem splitAfter_at (s : ByteArray) (w : World) (hs : s.size ≤ 2000000) :
    Calls Tryz.prog 166 #[.string s, .string ⟨#[59]⟩] w fun e w' =>
      e = .returned (.slice (some ⟨w.heap.size, 0, none⟩) ((cutS [] s.data.toList).length + 1) ((cutS [] s.data.toList).length + 1)) ∧
      w' = w.alloc (.cells (((cutS [] s.data.toList ++ [restS [] s.data.toList]).map fun x => Value.string (bs x)).toArray) 9) := by
  have c := genSplit_at s w hs
  go_enter Tryz.func166, Tryz.ntmps166
  go_wp2_with (go_at_call 186; refine c.mono ?_; rintro e w' ⟨rfl, hw⟩; rw [hw])
  go_ret
  exact ⟨rfl, by rw [List.map_append]; rfl⟩
theorem clip_at (g n c : Nat) (hn : n ≤ c) (w : World) : Calls Tryz.prog 83 #[.slice (some ⟨g, 0, none⟩) n c] w fun e w' => e = .returned (.slice (some ⟨g, 0, none⟩) n n) ∧ w' = w := by
  go_enter Tryz.func83, Tryz.ntmps83
  go_wp2
  go_ret
  exact ⟨rfl, rfl⟩
theorem owns_parts {w : World} {B : Nat} {v : Value} {n : Nat} {xs : List Value} (h : w.ownsRow B 9 1 v n xs) (hv : v ≠ .slice none 0 0) :
    ∃ g cap cur, v = .slice (some ⟨g, 0, none⟩) n cap ∧ n ≤ cap ∧ B ≤ g ∧ w.heap[g]? = some (.cells cur 9 (0, 0)) ∧ n ≤ cur.size ∧ cur.toList.take n = xs := by
  obtain ⟨_, ⟨e, _⟩ | ⟨g, cap, cur, e, hb, hh, hle, _, hs, ht⟩⟩ := h
  · exact absurd e hv
  · exact ⟨g, cap, cur, e, hle, hb, hh, by omega, by simpa using ht⟩
theorem clone_at (b off n c : Nat) (zs : List ByteArray) (w : World) (hz : n ≤ zs.length) (hbig : n * 16 ≤ 140737488355328) (hc : ∀ j, j < zs.length → w.cell? ⟨b, off + j, none⟩ = some (.string (zs.getD j ByteArray.empty))) :
    Calls Tryz.prog 46 #[.slice (some ⟨b, off, none⟩) n c] w fun e w' => ∃ g cur, e = .returned (.slice (some ⟨g, 0, none⟩) n n) ∧ w.heap.size ≤ g ∧ w'.heap[g]? = some (.cells cur 9 (0, 0)) ∧ n ≤ cur.size ∧ cur.toList.take n = (zs.take n).map Value.string ∧ Below w.heap.size w w' := by
  have k := Tryz.slices_Clone_string b off n c zs w hz hbig hc
  clear hc
  go_enter Tryz.func46, Tryz.ntmps46
  go_wp2_with (go_at_call 84; refine k.mono ?_; rintro e w' ⟨v', rfl, hown, hnn, hB⟩)
  obtain ⟨g, cap, cur, rfl, hle, hg, hh, hsz, htk⟩ := owns_parts hown hnn
  clear hown hnn
  have k2 := clip_at g n cap hle w'
  have A : Aside (w'.heap[g]? = some (.cells cur 9 (0, 0)) ∧ cur.toList.take n = (zs.take n).map Value.string) := ⟨hh, htk⟩
  clear hh htk
  go_wp2_with (go_at_call 83; refine k2.mono ?_; rintro e w'' ⟨rfl, rfl⟩)
  go_ret
  exact ⟨g, cur, rfl, hg, A.out.1, hsz, A.out.2, hB⟩
theorem alloc_self (w : World) (o : Go.Obj) : (w.alloc o).heap[w.heap.size]? = some o := by unfold World.alloc; simp
theorem cell_piece (w : World) (l : List (List UInt8)) (j : Nat) (hj : j < (l.map bs).length) :
    (w.alloc (.cells ((l.map fun x => Value.string (bs x)).toArray) 9)).cell? ⟨w.heap.size, 0 + j, none⟩ = some (.string ((l.map bs).getD j ByteArray.empty)) := by
  rw [cell_cells (alloc_self w _)]
  rw [List.length_map] at hj
  rw [List.getElem?_toArray, List.getElem?_map, Nat.zero_add, List.getElem?_eq_getElem hj, List.getD_eq_getElem?_getD, List.getElem?_map, List.getElem?_eq_getElem hj]
  rfl
theorem below_trans {a b c : World} (h1 : Below a.heap.size a b) (hs : a.heap.size ≤ b.heap.size) (h2 : Below b.heap.size b c) : Below a.heap.size a c :=
  ⟨h2.os.trans h1.os, h2.tape.trans h1.tape, h2.output.trans h1.output, Nat.le_trans h1.size h2.size, fun k hk => (h2.block k (Nat.lt_of_lt_of_le hk hs)).trans (h1.block k hk)⟩
theorem tagNames_at (s : ByteArray) (w : World) (hs : s.size ≤ 2000000) :
    Calls Tryz.prog 106 #[.string s] w fun e w' => ∃ g cur, e = .returned (.slice (some ⟨g, 0, none⟩) (cutS [] s.data.toList).length (cutS [] s.data.toList).length) ∧ w.heap.size ≤ g ∧ w'.heap[g]? = some (.cells cur 9 (0, 0)) ∧
      (cutS [] s.data.toList).length ≤ cur.size ∧ cur.toList.take (cutS [] s.data.toList).length = (cutS [] s.data.toList).map (fun x => Value.string (bs x)) ∧ Below w.heap.size w w' := by
  have k := splitAfter_at s w hs
  have hlen : (cutS [] s.data.toList).length ≤ 2000000 := by
    have h1 : (cutS [] s.data.toList).length ≤ s.size := by rw [cutS_count]; exact List.count_le_length
    omega
  generalize hc : cutS [] s.data.toList = cs at k hlen
  generalize hr : restS [] s.data.toList = rs at k
  clear hc hr
  have hz : cs.length ≤ ((cs ++ [rs]).map bs).length := by rw [List.length_map, List.length_append]; omega
  have k2 := clone_at w.heap.size 0 cs.length (cs.length + 1) ((cs ++ [rs]).map bs) (w.alloc (.cells (((cs ++ [rs]).map fun x => Value.string (bs x)).toArray) 9)) hz (by omega) (cell_piece w (cs ++ [rs]))
  have ht : (((cs ++ [rs]).map bs).take cs.length).map Value.string = cs.map (fun x => Value.string (bs x)) := by
    rw [← List.map_take, List.take_left', List.map_map]; rfl
    rfl
  rw [ht] at k2
  have hB : Below w.heap.size w (w.alloc (.cells (((cs ++ [rs]).map fun x => Value.string (bs x)).toArray) 9)) := (Below.refl _ w).alloc (Nat.le_refl _) _
  have hsz : w.heap.size ≤ (w.alloc (.cells (((cs ++ [rs]).map fun x => Value.string (bs x)).toArray) 9)).heap.size := hB.size
  generalize w.alloc (.cells (((cs ++ [rs]).map fun x => Value.string (bs x)).toArray) 9) = w1 at k k2 hB hsz
  generalize hn : cs.length = n at k k2 hlen
  have A : Aside (w.heap.size ≤ w1.heap.size ∧ Below w.heap.size w w1 ∧ n ≤ 2000000 ∧ cs.length = n) := ⟨hsz, hB, hlen, hn⟩
  clear hsz hB hn ht hz
  generalize cs.map (fun x => Value.string (bs x)) = vals at k2 ⊢
  go_enter Tryz.func106, Tryz.ntmps106
  go_wp2_with (go_at_call 166; refine k.mono ?_; rintro e w' ⟨rfl, rfl⟩)
  go_wp2_with (go_at_call 46; refine k2.mono ?_; rintro e w' ⟨g, cur, rfl, hg, hh, hsz, htk, hB2⟩)
  go_ret
  exact ⟨g, cur, rfl, Nat.le_trans A.out.1 hg, hh, hsz, htk, below_trans A.out.2.1 A.out.1 hB2⟩
theorem enterTn (s : ByteArray) (w : World) : (callFunc 106 #[.string s]).run Tryz.prog w = .ok (.enter 106 #[.string s]) w :=
  run_enter (c := (match Tryz.f106.body with | some c => c | none => .skip)) Tryz.func106 (by kernel_rfl) (by kernel_rfl) _ _
theorem own_pieces {w' : World} {prot : Nat → Prop} {B g n : Nat} {cur : Array Value} {l : List (List UInt8)} (hn : l.length = n) (hg : B ≤ g) (hh : w'.heap[g]? = some (.cells cur 9 (0, 0))) (hs : n ≤ cur.size) (ht : cur.toList.take n = l.map fun x => Value.string (bs x)) :
    OwnV B prot w' (.slice (some ⟨g, 0, none⟩) n n) (l.map fun x => [.str (bs x)]) := by
  subst hn
  refine .inr ⟨g, l.length, 1, cur, 9, by rw [List.length_map], hg, hh, ⟨by omega, fun e => by simpa using e⟩, by simp, fun i row hi => ?_⟩
  rw [List.getElem?_map] at hi
  obtain ⟨x, hx, e⟩ := Option.map_eq_some_iff.1 hi
  subst e
  refine ⟨rfl, fun j m hj => ?_⟩
  cases j with
  | zero =>
    simp at hj
    subst hj
    have hil : i < l.length := (List.getElem?_eq_some_iff.1 hx).1
    refine ⟨.string (bs x), ?_, .str _⟩
    have h1 : (cur.toList.take l.length)[i]? = some (Value.string (bs x)) := by rw [ht, List.getElem?_map, hx]; rfl
    rw [List.getElem?_take_of_lt hil] at h1
    simpa using h1
  | succ j => simp at hj
theorem tagn_ok : RunOk Tryz.prog fun f' args imps => if f' = 106 then (tagQ args).map fun m => (m, imps) else none := by
  refine ext_ok3 (q := tagQ) (fun args m h => ?_) fun args m h vals w prot hp hv => ?_
  · unfold tagQ at h
    split at h
    · rfl
    · cases h
  · unfold tagQ at h
    split at h
    · rename_i s
      split at h
      · rename_i hs
        cases h
        have hv' : vals = #[.string s] := by
          obtain ⟨l⟩ := vals
          change Rl _ l _ at hv
          cases hv with
          | cons h1 h2 => cases h2; cases h1; rfl
        subst hv'
        refine upon_calls (enterTn s w) ((tagNames_at s w hs).mono fun e w' ⟨g, cur, he, hg, hh, hsz, ht, hB⟩ => ⟨_, he, ⟨_, rfl, own_pieces rfl hg hh hsz ht⟩, hB⟩)
      · cases h
    · cases h
end Kw
namespace Kw
open Go Go.RowKit Go.Proofs
theorem ext_case {P : Program} {f k : FuncId} {q q' : List MV → Option MV} {r : Option (List MV → Option MV)} (h : (bif f == k then some q' else r) = some q)
    (hk : RunOk P fun f' args imps => if f' = k then (q' args).map fun m => (m, imps) else none) (hr : r = some q → RunOk P fun f' args imps => if f' = f then (q args).map fun m => (m, imps) else none) :
    RunOk P fun f' args imps => if f' = f then (q args).map fun m => (m, imps) else none := by
  cases hf : (f == k) with
  | true =>
    rw [hf] at h
    cases h
    have : f = k := by simpa using hf
    subst this
    exact @hk
  | false => rw [hf] at h; exact @hr h
theorem ext_case2 {P : Program} {f k k2 : FuncId} {q q' : List MV → Option MV} {r : Option (List MV → Option MV)} (h : (bif f == k || f == k2 then some q' else r) = some q)
    (hk : RunOk P fun f' args imps => if f' = k then (q' args).map fun m => (m, imps) else none) (hk2 : RunOk P fun f' args imps => if f' = k2 then (q' args).map fun m => (m, imps) else none) (hr : r = some q → RunOk P fun f' args imps => if f' = f then (q args).map fun m => (m, imps) else none) :
    RunOk P fun f' args imps => if f' = f then (q args).map fun m => (m, imps) else none := by
  cases hf : (f == k) with
  | true =>
    rw [hf] at h
    cases h
    have : f = k := by simpa using hf
    subst this
    exact @hk
  | false =>
    rw [hf] at h
    cases hf2 : (f == k2) with
    | true =>
      rw [hf2] at h
      cases h
      have : f = k2 := by simpa using hf2
      subst this
      exact @hk2
    | false => rw [hf2] at h; exact @hr h
set_option maxRecDepth 100000 in
theorem hext (f : FuncId) (q : List MV → Option MV) (hq : E.ext f = some q) : RunOk E.P fun f' args imps => if f' = f then (q args).map fun m => (m, imps) else none := by
  refine @ext_case _ f 194 q _ _ hq atoiR fun hq => @ext_case _ f 62 q _ _ hq itoaR fun hq => @ext_case _ f 169 q _ _ hq joinR fun hq => @ext_case2 _ f 136 83 q _ _ hq clipR_136 clipR_83 fun hq => @ext_case _ f 45 q _ _ hq clone_45 fun hq => @ext_case _ f 46 q _ _ hq clone_46 fun hq => @ext_case _ f 85 q _ _ hq clone_85 fun hq => @ext_case _ f 86 q _ _ hq clone_86 fun hq => @ext_case _ f 87 q _ _ hq clone_87 fun hq => @ext_case _ f 88 q _ _ hq clone_88 fun hq => @ext_case _ f 89 q _ _ hq clone_89 fun hq => @ext_case _ f 90 q _ _ hq clone_90 fun hq => @ext_case _ f 91 q _ _ hq clone_91 fun hq => @ext_case _ f 92 q _ _ hq clone_92 fun hq => @ext_case _ f 146 q _ _ hq clone_146 fun hq => @ext_case _ f 147 q _ _ hq clone_147 fun hq => @ext_case _ f 161 q _ _ hq delR fun hq => @ext_case _ f 182 q _ _ hq countR fun hq => @ext_case _ f 106 q _ _ hq tagn_ok fun hq => ?_
  cases hq
set_option maxRecDepth 100000 in
theorem run_ok {L : Nat} (D : Nat) : RunOk Tryz.prog (ev E L D) := by
  have hm : E.P.follows .mixedOrders = true := mixed
  have hn : ∀ (f : FuncId) (fn : Func), E.P.funcs[f]? = some fn → (fn.name == "runtime.NumGoroutine") = false := name_ok
  have h : RunOk E.P (ev E L D) := sound (L := L) hm hn lex_ok hext D
  exact @h
end Kw
