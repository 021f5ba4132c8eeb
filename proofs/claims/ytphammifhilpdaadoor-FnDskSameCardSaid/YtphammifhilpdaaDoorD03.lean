import Derived.Test.YtphammifhilpdaaDoorD02
import Derived.Laws.AppendOwn
import Derived.Deep.Upon
import Derived.Great.BuildSlice
import Derived.Laws.MakeOwn
import Derived.Laws.Strings
import Derived.Orders
import Derived.Deep.LoopGhost
namespace Kw
set_option linter.unusedVariables false
set_option linter.unusedSimpArgs false
set_option linter.unusedSectionVars false
open Go
variable [Gl]
section
variable {P : Program} {R : Type} {r : R} {fr : Fr} {g : G} {tmps : Array Value} {w : World}
theorem okR_iff {sz : Nat} {rows : List Row} : okR sz rows = true ↔ ∀ row ∈ rows, row.length = sz := by simp [okR]
theorem sim_drew {w' : World} (S : Sim fr g tmps w) (hw : w'.heap = w.heap) : Sim fr g tmps w' := by
  have L : Later g g (cur fr.ob) (cur fr.ob) w w' := ⟨fun _ _ e => .inl e, fun _ _ _ _ e => .inr ⟨Int.le_refl _, .inl e⟩, fun _ e => .inr ⟨Int.le_refl _, .inl e⟩, fun _ e => e, fun _ h => h, fun _ _ => by rw [hw]⟩
  exact ⟨S.size, fun t v m h1 h2 => (S.slot t v m h1 h2).mono L, S.o.keys, S.o.abs, fun h o hm => (S.o.obj h o hm).mono L rfl (fun _ _ => by rw [hw]) (fun _ _ hn => hn), S.o.inj, fun h b e => by rw [hw]; exact S.o.lt h b e, fun b e => by rw [hw]; exact S.o.plt b e, S.o.gl.mono (fun _ h => h) (fun _ _ => by rw [hw])⟩
/-- a second argument that is a slice -/
theorem src_ok {m : MV} {v : Value} {kk : List Row → Option R} (h : fr.rows m kk = some r) (S : Sim fr g tmps w) (hv : RV g (cur fr.ob) w v m) (size : Nat) {tx e' : TypeId} (hk : P.underlying tx = some (.slice e')) :
    ∃ xs, kk xs = some r ∧ (okR size xs = true → ∃ news, Src P size tx v xs.length news w ∧ RowsR w g.prot news.toArray size xs) := by
  obtain ⟨rows, ad, c, h, ev, hle, sz, vf, hrow, had, hsv⟩ := rows_ok h S hv
  refine ⟨rows, h, fun hok => ?_⟩
  subst ev
  by_cases h0 : rows.length = 0
  · have : rows = [] := List.eq_nil_of_length_eq_zero h0
    subst this
    refine ⟨[], ?_, fun i row h => by simp at h⟩
    cases ad with
    | none => exact Src.ofNil w hk c
    | some ad => exact Src.ofSlice w hk ad 0 c [] (by simp) (fun j u h => by simp at h) (fun u h => by cases h)
  · obtain ⟨ad', e3, hsp, hcell⟩ := had (by omega)
    subst e3
    have e4 : ad' = ⟨ad'.block, ad'.off, none⟩ := by cases ad'; simp at hsp; subst hsp; rfl
    have hsz : sz = size := by
      have h1 : rows[0]? = some (rows[0]'(by omega)) := List.getElem?_eq_getElem (by omega)
      rw [← hrow 0 _ h1]
      exact okR_iff.1 hok _ (List.getElem_mem _)
    subst hsz
    have hget : ∀ q, q < rows.length * sz → ∃ i j row m, q = i * sz + j ∧ j < sz ∧ rows[i]? = some row ∧ row[j]? = some m := by
      intro q hq
      have hpos : 0 < sz := Nat.pos_of_ne_zero (fun e => by subst e; simp at hq)
      have hi : q / sz < rows.length := (Nat.div_lt_iff_lt_mul hpos).2 hq
      have h1 : rows[q / sz]? = some (rows[q / sz]'hi) := List.getElem?_eq_getElem hi
      have hl := hrow _ _ h1
      have hj := Nat.mod_lt q hpos
      exact ⟨q / sz, q % sz, _, _, by rw [Nat.mul_comm]; exact (Nat.div_add_mod q sz).symm, hj, h1, List.getElem?_eq_getElem (by omega)⟩
    have hdm : ∀ i j, j < sz → (i * sz + j) / sz = i ∧ (i * sz + j) % sz = j := by
      intro i j hj
      have hpos : 0 < sz := by omega
      refine ⟨?_, ?_⟩
      · rw [Nat.mul_comm, Nat.mul_add_div hpos, Nat.div_eq_of_lt hj, Nat.add_zero]
      · rw [Nat.mul_comm, Nat.mul_add_mod, Nat.mod_eq_of_lt hj]
    refine ⟨(List.range (rows.length * sz)).map fun q => vf (q / sz) (q % sz), Src.ofSlice w hk ad' _ c _ (by simp) (fun q u h => ?_) (fun u hu => ?_), fun i row hi => ⟨hrow i row hi, fun j m hj => ?_⟩⟩
    · have hq : q < rows.length * sz := by
        have := (List.getElem?_eq_some_iff.1 h).1
        simpa using this
      obtain ⟨i, j, row, m, e, hj, h1, h2⟩ := hget q hq
      obtain ⟨d1, d2⟩ := hdm i j hj
      rw [List.getElem?_map, List.getElem?_range hq] at h
      simp only [Option.map_some, Option.some.injEq] at h
      rw [← h, e, d1, d2, e4, addAt]
      exact hcell i row j m h1 h2
    · obtain ⟨q, hq, rfl⟩ := List.mem_map.1 hu
      obtain ⟨i, j, row, m, e, hj, h1, h2⟩ := hget q (List.mem_range.1 hq)
      obtain ⟨d1, d2⟩ := hdm i j hj
      rw [e, d1, d2]
      exact (sv_oneC (hsv i row j m h1 h2)).1
    · have hjs : j < sz := by rw [← hrow i row hi]; exact (List.getElem?_eq_some_iff.1 hj).1
      obtain ⟨d1, d2⟩ := hdm i j hjs
      have hil := (List.getElem?_eq_some_iff.1 hi).1
      have hlt : i * sz + j < rows.length * sz := by
        have : (i + 1) * sz ≤ rows.length * sz := Nat.mul_le_mul_right _ (by omega)
        rw [Nat.add_mul] at this; omega
      refine ⟨vf i j, ?_, hsv i row j m hi hj⟩
      rw [List.getElem?_toArray, List.getElem?_map, List.getElem?_range hlt]
      simp [d1, d2]
theorem src_str {s : ByteArray} {tx : TypeId} (hk : P.underlying tx = some .string) {p : Nat → Prop} : ∃ news, Src P 1 tx (.string s) (byteRows s).length news w ∧ RowsR w p news.toArray 1 (byteRows s) := by
  have hl : (byteRows s).length = s.size := by unfold byteRows; rw [List.length_map, Array.length_toList]; rfl
  refine ⟨byteCells s, by rw [hl]; exact Src.ofString w hk s, fun i row h => ?_⟩
  unfold byteRows at h
  rw [List.getElem?_map] at h
  obtain ⟨b, hb, e⟩ := Option.map_eq_some_iff.1 h
  subst e
  refine ⟨rfl, fun j m hj => ?_⟩
  cases j with
  | zero =>
    simp at hj; subst hj
    refine ⟨.int .u8 b.toNat, ?_, .int _ _⟩
    rw [List.getElem?_toArray]; unfold byteCells
    rw [List.getElem?_map]; simp at hb; simp [hb]
  | succ j => simp at hj
/-- rows behind rows -/
theorem rows_cat {p : Nat → Prop} {arr : Array Value} {sz : Nat} {rows xs : List Row} {a1 : List Value} {n1 : List Value} (h1 : RowsR w p a1.toArray sz rows) (h2 : RowsR w p n1.toArray sz xs)
    (ha : ∀ q, q < rows.length * sz → arr[q]? = a1[q]?) (hn : ∀ q, q < n1.length → arr[rows.length * sz + q]? = n1[q]?) : RowsR w p arr sz (rows ++ xs) := by
  intro i row hi
  by_cases hr : i < rows.length
  · rw [List.getElem?_append_left hr] at hi
    obtain ⟨hl, hc⟩ := h1 i row hi
    refine ⟨hl, fun j m hj => ?_⟩
    obtain ⟨v, hv, hs⟩ := hc j m hj
    have hjs : j < sz := by rw [← hl]; exact (List.getElem?_eq_some_iff.1 hj).1
    have : (i + 1) * sz ≤ rows.length * sz := Nat.mul_le_mul_right _ hr
    rw [Nat.add_mul] at this
    exact ⟨v, by rw [ha _ (by omega)]; simpa using hv, hs⟩
  · rw [List.getElem?_append_right (by omega)] at hi
    obtain ⟨hl, hc⟩ := h2 _ row hi
    refine ⟨hl, fun j m hj => ?_⟩
    obtain ⟨v, hv, hs⟩ := hc j m hj
    rw [List.getElem?_toArray] at hv
    have := hn ((i - rows.length) * sz + j) (List.getElem?_eq_some_iff.1 hv).1
    refine ⟨v, ?_, hs⟩
    rw [← hv, ← this]
    congr 1
    have e : i = rows.length + (i - rows.length) := by omega
    rw [e, Nat.add_mul]
    have : rows.length + (i - rows.length) - rows.length = i - rows.length := by omega
    rw [this]; omega
end
end Kw
namespace Kw
set_option linter.unusedVariables false
set_option linter.unusedSimpArgs false
set_option linter.unusedSectionVars false
open Go
variable [Gl]
theorem storeCells_row {P : Program} {w : World} {b off : Nat} {arr : Array Value} {ty : TypeId} (vs : List Value) (hh : w.heap[b]? = some (.cells arr ty (0, 0))) (hl : off + vs.length ≤ arr.size) (h1 : ∀ u ∈ vs, u.oneCell' = true) :
    (storeCells ⟨b, off, none⟩ vs).run P w = .ok () (w.setRow b (setV arr.toList off vs).toArray) := by
  have hst := run_storeCells_at (P := P) b off ty vs 0 arr w hh (by simpa using hl) h1
  rw [setV_eq _ _ _ (by simpa using hl)]
  simpa using hst
theorem run_append_in {P : Program} {w : World} {t tx ty e : TypeId} {i : TypeInfo} (ht : P.underlying t = some (.slice e)) (hi : P.info? e = some i) {b sLen sCap : Nat} {x : Value} {n : Nat} {news : List Value} (hs : Src P i.size tx x n news w)
    {arr : Array Value} {ty' : TypeId} (hh : w.heap[b]? = some (.cells arr ty' (0, 0))) (hroom : sLen + n ≤ sCap) (hl : sLen * i.size + news.length ≤ arr.size) :
    (Builtin.append_ #[t, tx] ty #[.slice (some ⟨b, 0, none⟩) sLen sCap, x]).run P w = .ok (.slice (some ⟨b, 0, none⟩) (sLen + n) sCap) (w.setRow b (setV arr.toList (sLen * i.size) news).toArray) := by
  have hst := storeCells_row (P := P) news hh hl hs.one
  rcases hs.kind with ⟨e', hk⟩ | hk <;> simp [Builtin.append_, run_underlying ht, run_underlying hk, Go.sizeOf, typeInfo, hi, hs.len, hroom, hs.cells, Addr.add_lit, hst]
section
variable {P : Program} {R : Type} {r : R} {fr : Fr} {g : G} {tmps : Array Value} {w : World}
theorem cur_rows {ob : Ob} {h : H} {rows : List Row} : cur (put ob h (.rows rows)) h = nrows rows := by unfold cur; rw [look_put]
theorem nrows_cat {a b : List Row} : nrows (a ++ b) = nrows a + nrows b := by unfold nrows; simp
/-- the memory of an append that grows -/
theorem grown {t tx ty e : TypeId} (ht : P.underlying t = some (.slice e)) (hk : okT P e = true) (hb : 1 ≤ tbytes P e) {base : Option Addr} {rows xs : List Row} {cap : Nat} {olds news : List Value} {xv : Value}
    (hold : (Builtin.firstCells (tsize P e) rows.length (.slice base rows.length cap)).run P w.drew = .ok olds.toArray w.drew) (hol : olds.length = rows.length * tsize P e)
    (hs : Src P (tsize P e) tx xv xs.length news w) (hg : cap < rows.length + xs.length) (hf : fits (nrows rows) (nrows xs) (tbytes P e) = true)
    (hr1 : RowsR w g.prot olds.toArray (tsize P e) rows) (hr2 : RowsR w g.prot news.toArray (tsize P e) xs) :
    ∃ (arr : Array Value) (c : Nat), (Builtin.append_ #[t, tx] ty #[.slice base rows.length cap, xv]).run P w = .ok (.slice (some ⟨w.heap.size, 0, none⟩) (rows.length + xs.length) c) { w.drew with heap := w.heap.push (.cells arr e (0, 0)) } ∧
      arr.size = c * tsize P e ∧ rows.length + xs.length ≤ c ∧ RowsR w g.prot arr (tsize P e) (rows ++ xs) := by
  obtain ⟨i, z, hi, hz, hzc, hzs⟩ := zero_cells hk
  have hsz : i.size = tsize P e := by unfold tsize; rw [hi]
  have hby : i.bytes = tbytes P e := by unfold tbytes; rw [hi]
  have hfit : (rows.length + xs.length) * tbytes P e ≤ 2 ^ 46 := by
    unfold fits nrows at hf
    simp only [decide_eq_true_eq] at hf
    have : (((rows.length + xs.length) * tbytes P e : Nat) : Int) ≤ ((2 ^ 46 : Nat) : Int) := by
      rw [Int.natCast_mul, Int.natCast_add]; exact hf
    exact Int.ofNat_le.1 this
  have h46 : rows.length + xs.length ≤ 2 ^ 46 := Nat.le_trans (Nat.le_mul_of_pos_right _ hb) hfit
  have hrun := run_append_grow_src (P := P) w t tx ty e i z ht hi hz base rows.length cap olds (by rw [hsz]; exact hold) xv xs.length news (by rw [hsz]; exact hs) hg (by omega) (by rw [hby]; exact growslice_fits hg (by omega))
  refine ⟨_, _, hrun, ?_, grownCap_ge _ _ _ _, ?_⟩
  · have hge := grownCap_ge w (rows.length + xs.length) cap e
    simp only [Array.size_append, List.size_toArray, List.length_append, size_zeroCells, hol, hs.newsLen, hzs]
    rw [← Nat.add_mul, ← Nat.add_mul]
    congr 1; omega
  · refine rows_cat hr1 hr2 (fun q hq => ?_) (fun q hq => ?_)
    · rw [Array.getElem?_append_left (by simp; omega), List.getElem?_toArray, List.getElem?_append_left (by omega)]
    · rw [Array.getElem?_append_left (by simp; omega), List.getElem?_toArray, ← hol, List.getElem?_append_right (by omega)]
      congr 1; omega
theorem evAppend_ok {E : Env} (hP : E.P = P) {d : Nat} {m : MV} {v : Value} {t tx ty e : TypeId} {xs : List Row} {xv : Value} {kk : MV → Fr → Option R} (h : evAppend E d m e xs fr kk = some r) (S : Sim fr g tmps w) (hv : RV g (cur fr.ob) w v m)
    (ht : P.underlying t = some (.slice e)) (hsrc : okR (tsize P e) xs = true → ∃ news, Src P (tsize P e) tx xv xs.length news w ∧ RowsR w g.prot news.toArray (tsize P e) xs) :
    ∃ v' w' m' fr' g', (Builtin.append_ #[t, tx] ty #[v, xv]).run P w = .ok v' w' ∧ kk m' fr' = some r ∧ Sim fr' g' tmps w' ∧ Fm g w g' w' ∧ RV g' (cur fr'.ob) w' v' m' := by
  subst hP
  unfold evAppend at h
  split at h
  case isFalse => simp at h
  rename_i hkb
  simp only [Bool.and_eq_true, Nat.ble_eq] at hkb
  obtain ⟨hk, hb⟩ := hkb
  obtain ⟨i, z, hi, hz, hzc, hzs⟩ := zero_cells hk
  have hsz : i.size = tsize E.P e := by unfold tsize; rw [hi]
  split at h
  · rename_i hd n
    split at h
    · simp at h
    rename_i hnI
    have hni : ∀ i, hd ≠ .imp i := fun i e => by rw [e] at hnI; simp [isImp] at hnI
    split at h
    · rename_i rows er
      rcases br_some h with ⟨hc, h⟩ | ⟨_, h⟩
      case inr => simp at h
      obtain ⟨hn, hc⟩ := bAnd_true hc
      obtain ⟨hro, hc⟩ := bAnd_true hc
      obtain ⟨hxo, hf⟩ := bAnd_true hc
      obtain ⟨news, hs, hr2⟩ := hsrc hxo
      have hcurn : cur fr.ob hd = nrows rows := by unfold cur; unfold Fr.obj at er; rw [er]
      have hn' : n = cur fr.ob hd := by rw [hcurn]; exact iEq_true hn
      have hnn : n.toNat = rows.length := by rw [iEq_true hn]; unfold nrows; simp
      have hrv : ∀ (x : GH) (c : Nat) (b : Nat), x = .mem b c (tsize E.P e) → RV (g.setR hd x) (cur (put fr.ob hd (.rows (rows ++ xs)))) w (.slice (some ⟨b, 0, none⟩) (rows.length + xs.length) c) (.ref hd (nrows (catR rows xs))) → True := fun _ _ _ _ _ => trivial
      by_cases hxs : xs = []
      · subst hxs
        have hnews : news = [] := by
          have := hs.newsLen; simpa using this
        subst hnews
        have hcat : catR rows [] = rows := by unfold catR; simp
        rw [hcat] at h
        have hrun : ∃ base cap, v = .slice base rows.length cap ∧ rows.length ≤ cap := by
          rcases obj_of S.o er (by simp) with ⟨eg, ex⟩ | ⟨b, cap, sz, arr, ty, eg, hh, hnp, _, hle, _⟩
          · subst ex; obtain ⟨a0, ev⟩ := rv_refN hv eg hn'; exact ⟨a0, 0, ev, Nat.le_refl _⟩
          · have := rv_ref hv eg hn'
            rw [hnn] at this
            exact ⟨_, cap, this, hle⟩
        obtain ⟨base, cap, ev, hle⟩ := hrun
        have hput : fr.setObj hd (.rows rows) = fr := by
          have hm : ∀ ob : Ob, look ob hd = .rows rows → put ob hd (.rows rows) = ob := by
            intro ob
            induction ob with
            | nil => intro h; simp [look] at h
            | cons p ob ih =>
              intro h
              obtain ⟨h', o'⟩ := p
              unfold look at h; unfold put
              by_cases e : h' = hd
              · rw [if_pos e] at h ⊢; rw [h, e]
              · rw [if_neg e] at h ⊢; rw [ih h]
          unfold Fr.setObj; rw [hm _ er]
        rw [hput] at h
        refine ⟨v, w, _, fr, g, ?_, h, S, Fm.refl _ _, ?_⟩
        · rw [ev]; exact run_append_nothing w t tx ty e i ht hi base rows.length cap hle xv (by rw [hsz]; exact hs)
        · rw [← iEq_true hn]; exact hv
      · have hpos : 0 < xs.length := List.length_pos_iff.2 hxs
        have hlt : cur fr.ob hd < cur (put fr.ob hd (.rows (catR rows xs))) hd := by
          rw [cur_rows, hcurn]; unfold catR; rw [nrows_cat]; unfold nrows; omega
        have hval : (nrows (catR rows xs)).toNat = rows.length + xs.length := by unfold catR nrows; simp; omega
        -- growth
        have growth : ∀ (base : Option Addr) (cap : Nat) (olds : List Value), v = .slice base rows.length cap → cap < rows.length + xs.length →
            (Builtin.firstCells (tsize E.P e) rows.length (.slice base rows.length cap)).run E.P w.drew = .ok olds.toArray w.drew → olds.length = rows.length * tsize E.P e → RowsR w g.prot olds.toArray (tsize E.P e) rows →
            ((∃ b c s, g.rho hd = .mem b c s) ∨ g.rho hd = .nil) → (∀ b, (g.rho hd).blk = some b → ¬ g.prot b) →
            ∃ v' w' m' fr' g', (Builtin.append_ #[t, tx] ty #[v, xv]).run E.P w = .ok v' w' ∧ kk m' fr' = some r ∧ Sim fr' g' tmps w' ∧ Fm g w g' w' ∧ RV g' (cur fr'.ob) w' v' m' := by
          intro base cap olds ev hg hold hol hr1 hrho hnp
          obtain ⟨arr, c, hrun, hsa, hle, hrr⟩ := grown (P := E.P) (g := g) (ty := ty) ht hk hb hold hol hs hg hf hr1 hr2
          obtain ⟨S', F, L⟩ := obj_upd (w' := { w.drew with heap := w.heap.push (.cells arr e (0, 0)) }) S hd (.rows (catR rows xs)) (.mem w.heap.size c (tsize E.P e)) (by simp) (.inl hni) (.inr (.inr ⟨hrho, ⟨_, _, _, rfl⟩, hlt⟩))
            (fun b hb' _ => by simp only; rw [Array.getElem?_push_lt hb', Array.getElem?_eq_getElem hb']) hnp (by simp) (fun b e => .inr (by cases e; simp)) rfl rfl rfl
            (fun g' eg L => by
              subst eg
              refine .inr ⟨w.heap.size, c, tsize E.P e, arr, e, setR_self, by simp, fun hp => Nat.lt_irrefl _ (S.o.plt _ hp), ⟨Nat.le_of_eq hsa.symm, fun e' => ?_⟩, ?_, hrr.mono L.prot L.heap⟩
              · unfold catR at e'; simp at e'; exact absurd e'.2 hxs
              · unfold catR; simp; omega)
          refine ⟨_, _, _, _, _, by rw [ev]; exact hrun, h, S', F, .ref setR_self ?_ (fun _ => ?_) rfl⟩
          · show _ ≤ cur (put fr.ob hd _) hd
            rw [cur_rows]; exact Int.le_refl _
          · rw [hval]
        rcases obj_of S.o er (by simp) with ⟨eg, ex⟩ | ⟨b, cap, sz, arr, ty', eg, hh, hnp, ⟨hsa, hz0⟩, hle, hrr⟩
        · subst ex
          obtain ⟨a0, ev⟩ := rv_refN hv eg hn'
          exact growth a0 0 [] ev (by simp; exact hpos) (by cases a0 with | none => exact run_firstCells_none _ _ _ _ _ | some b => exact run_firstCells_some _ _ 0 _ _ _ [] (by simp) (fun j u h => by simp at h)) (by simp) (fun i row h => by simp at h) (.inr eg) (fun b e => by rw [eg] at e; cases e)
        · have ev := rv_ref hv eg hn'
          rw [hnn] at ev
          have hnp' : ∀ b', (g.rho hd).blk = some b' → ¬ g.prot b' := fun b' e' => by rw [eg] at e'; cases e'; exact hnp
          by_cases hc0 : rows = [] ∧ cap = 0
          · obtain ⟨hr0, hcap⟩ := hc0
            subst hr0
            subst hcap
            exact growth (some ⟨b, 0, none⟩) 0 [] ev (by simp; exact hpos) (run_firstCells_some _ _ 0 _ _ _ [] (by simp) (fun j u h => by simp at h)) (by simp) (fun i row h => by simp at h) (.inl ⟨_, _, _, eg⟩) hnp'
          · have hsz' : sz = tsize E.P e := by
              by_cases hr0 : rows = []
              · rcases hz0 hr0 with hcap | ⟨hkk, hs4⟩
                · exact absurd ⟨hr0, hcap⟩ hc0
                · simp only [hkk, Bool.true_and, Bool.or_eq_true, Bool.not_eq_true', beq_eq_false_iff_ne, not_or, Decidable.not_not] at hnI
                  rw [hs4]; exact hnI.2.symm
              · have hlen : 0 < rows.length := List.length_pos_iff.2 hr0
                have h1 : rows[0]? = some (rows[0]'hlen) := List.getElem?_eq_getElem hlen
                rw [← (hrr 0 _ h1).1]; exact okR_iff.1 hro _ (List.getElem_mem _)
            subst hsz'
            have hle2 : rows.length * tsize E.P e ≤ arr.size := Nat.le_trans (Nat.mul_le_mul_right _ hle) hsa
            by_cases hroom : rows.length + xs.length ≤ cap
            · have hlb : rows.length * tsize E.P e + news.length ≤ arr.size := by
                rw [hs.newsLen, ← Nat.add_mul]; exact Nat.le_trans (Nat.mul_le_mul_right _ hroom) hsa
              have hrun := run_append_in (P := E.P) (ty := ty) ht hi (by rw [hsz]; exact hs) hh hroom (by rw [hsz]; exact hlb)
              rw [hsz] at hrun
              obtain ⟨S', F, L⟩ := obj_upd (w' := w.setRow b (setV arr.toList (rows.length * tsize E.P e) news).toArray) S hd (.rows (catR rows xs)) (g.rho hd) (by rw [eg]; simp) (.inr rfl) (.inr (.inl ⟨rfl, by omega, .inl ⟨_, _, _, eg⟩⟩))
                (fun b' hb' hne => setRow_other _ _ _ _ (fun eb => hne (by rw [eg, eb]; rfl))) hnp' (by simp) (fun b' e' => .inl e') rfl rfl rfl
                (fun g' eg' L => by
                  rw [setR_same rfl] at eg'
                  subst eg'
                  refine .inr ⟨b, cap, tsize E.P e, _, ty', eg, setRow_heap _ _ _ _ _ _ hh, hnp, ⟨by simp [setV_len, hsa], fun e' => ?_⟩, ?_, ?_⟩
                  · unfold catR at e'; simp at e'; exact absurd e'.2 hxs
                  · unfold catR; simp; exact hroom
                  · refine RowsR.mono (w := w) ?_ (fun _ h => h) L.heap
                    unfold catR
                    refine rows_cat (a1 := arr.toList) (by simpa using hrr) hr2 (fun q hq => ?_) (fun q hq => ?_)
                    · rw [List.getElem?_toArray, setV_get _ _ _ _ (.inl hq)]
                    · rw [List.getElem?_toArray]
                      have hnq : news[q]? = some (news[q]'hq) := List.getElem?_eq_getElem hq
                      rw [hnq]; exact setV_mid _ _ _ _ _ hnq (by simpa using hlb))
              rw [setR_same rfl] at S' F
              refine ⟨_, _, _, _, _, by rw [ev]; exact hrun, h, S', F, .ref eg ?_ (fun _ => ?_) rfl⟩
              · show _ ≤ cur (put fr.ob hd _) hd
                rw [cur_rows]; exact Int.le_refl _
              · rw [hval]
            · refine growth (some ⟨b, 0, none⟩) cap (arr.toList.take (rows.length * tsize E.P e)) ev (by omega) (run_firstCells_some _ _ _ _ _ _ _ (by simp; omega) (fun j u hj => ?_)) (by simp; omega) ?_ (.inl ⟨_, _, _, eg⟩) hnp'
              · rw [addAt]
                have : w.drew.cell? ⟨b, 0 + j, none⟩ = w.cell? ⟨b, 0 + j, none⟩ := cell_of_heap _ _ rfl
                rw [this, cell_cells hh]
                rw [List.getElem?_take] at hj
                split at hj
                · simpa using hj
                · simp at hj
              · intro q row hq
                obtain ⟨hl, hc⟩ := hrr q row hq
                refine ⟨hl, fun j m hj => ?_⟩
                obtain ⟨u, hu, hsu⟩ := hc j m hj
                refine ⟨u, ?_, hsu⟩
                have hjs : j < tsize E.P e := by rw [← hl]; exact (List.getElem?_eq_some_iff.1 hj).1
                have hql := (List.getElem?_eq_some_iff.1 hq).1
                have : (q + 1) * tsize E.P e ≤ rows.length * tsize E.P e := Nat.mul_le_mul_right _ hql
                rw [Nat.add_mul] at this
                rw [List.getElem?_toArray, List.getElem?_take_of_lt (by omega)]
                simpa using hu
    · simp at h
  · rcases br_some h with ⟨hc, h⟩ | ⟨_, h⟩
    case inr => simp at h
    obtain ⟨hxo, hf⟩ := bAnd_true hc
    obtain ⟨news, hs, hr2⟩ := hsrc hxo
    have ev : v = .slice none 0 0 := by
      cases hv with
      | sv h => cases h
      | nils => rfl
    subst ev
    obtain ⟨hfree, h⟩ := lay_some h
    by_cases hxs : xs = []
    · subst hxs
      have hnews : news = [] := by
        have := hs.newsLen; simpa using this
      subst hnews
      have habs : g.rho (.loc d 0) = .absent := (S.o.abs _).2 hfree
      have hcur : ∀ h', g.rho h' ≠ .absent → cur (put fr.ob (.loc d 0) (.rows [])) h' = cur fr.ob h' := fun h' hn => cur_put_ne (fun e => hn (e ▸ habs))
      have ne : ∀ h', g.rho h' ≠ .absent → h' ≠ (.loc d 0) := fun h' hn e => hn (e ▸ habs)
      have L : Later g (g.setR (.loc d 0) .nil) (cur fr.ob) (cur (put fr.ob (.loc d 0) (.rows []))) w w :=
        ⟨fun h' b e => .inl ((setR_ne (ne h' (by rw [e]; simp))).trans e), fun h' b c s e => .inr ⟨by rw [hcur h' (by rw [e]; simp)]; exact Int.le_refl _, .inl ((setR_ne (ne h' (by rw [e]; simp))).trans e)⟩,
          fun h' e => .inr ⟨by rw [hcur h' (by rw [e]; simp)]; exact Int.le_refl _, .inl ((setR_ne (ne h' (by rw [e]; simp))).trans e)⟩, fun h' e => (setR_ne (ne h' (by rw [e]; simp))).trans e, fun _ h => h, fun _ _ => rfl⟩
      have S' : Sim (fr.setObj (.loc d 0) (.rows [])) (g.setR (.loc d 0) .nil) tmps w :=
        S.later L (S.o.upd _ _ (fun h' e => setR_ne e) (by rw [setR_self]; simp) L (fun _ _ _ _ => rfl) (fun _ _ _ _ hn => hn) (.inl ⟨setR_self, rfl⟩) (fun h' b _ e => by rw [setR_self] at e; cases e) (fun b e => by rw [setR_self] at e; cases e) (Nat.le_refl _) S.o.plt)
      refine ⟨_, w, _, _, _, run_append_nothing w t tx ty e i ht hi none 0 0 (Nat.le_refl _) xv (by rw [hsz]; exact hs), h, S', ⟨rfl, rfl, rfl, Nat.le_refl _, fun _ _ _ => rfl, fun h' b e => ?_, fun _ hp => hp, fun _ hp => .inl hp, fun i => .inl (setR_ne (by simp))⟩, .refN setR_self ?_ (fun _ => ⟨_, rfl⟩) rfl⟩
      · by_cases eh : h' = .loc d 0
        · subst eh; rw [setR_self] at e; cases e
        · rw [setR_ne eh] at e; exact .inr ⟨h', e⟩
      · show _ ≤ cur (put fr.ob _ _) _
        rw [cur_rows]; exact Int.le_refl _
    · have hpos : 0 < xs.length := List.length_pos_iff.2 hxs
      obtain ⟨arr, c, hrun, hsa, hle, hrr⟩ := grown (P := E.P) (g := g) (ty := ty) (rows := []) (olds := []) (cap := 0) (base := none) ht hk hb (run_firstCells_none _ _ _ _ _) (by simp) hs (by simp; exact hpos) (by simpa [nrows] using hf) (fun i row h => by simp at h) hr2
      simp only [List.length_nil, Nat.zero_add, List.nil_append] at hrun hle hrr
      have Sd : Sim fr g tmps w.drew := sim_drew S rfl
      obtain ⟨S', F⟩ := lay_sim Sd hfree (.rows xs) (.mem w.heap.size c (tsize E.P e)) (.cells arr e (0, 0)) (by simp) (by simp) (fun b e => by cases e; rfl) (fun g' w' eg ew L => by
        subst eg; subst ew
        refine .inr ⟨w.heap.size, c, tsize E.P e, arr, e, setR_self, (by show (w.heap.push _)[w.heap.size]? = _; simp), fun hp => Nat.lt_irrefl _ (S.o.plt _ hp), ⟨Nat.le_of_eq hsa.symm, fun e' => absurd e' hxs⟩, hle, ?_⟩
        exact RowsR.mono (w := w) hrr (fun _ h => h) L.heap)
      refine ⟨_, _, _, _, _, hrun, h, S', ⟨F.os, F.tape, F.output, F.size, F.heap, F.own, F.prot, F.prot', F.imp⟩, .ref setR_self ?_ (fun _ => ?_) rfl⟩
      · show _ ≤ cur (put fr.ob _ _) _
        rw [cur_rows]; exact Int.le_refl _
      · unfold nrows; simp
  · simp at h
end
end Kw
namespace Kw
set_option linter.unusedVariables false
set_option linter.unusedSimpArgs false
set_option linter.unusedSectionVars false
open Go
variable [Gl]
section
variable {P : Program} {R : Type} {r : R} {k : Fr → Option R} {fr : Fr} {g : G} {a : Act} {w : World} {o : Oper} {Q : Exit → Act → World → Prop}
theorem arr1 {α : Type} {x : Array α} {a : α} (h : x.toList = [a]) : x = #[a] := by apply Array.ext'; simp [h]
theorem arr2 {α : Type} {x : Array α} {a b : α} (h : x.toList = [a, b]) : x = #[a, b] := by apply Array.ext'; simp [h]
theorem s_append {E : Env} (hP : E.P = P) {c : Call} (ho : o.op = .call c) (hc : c.callee = .builtin .append) (h : (match c.argTypes.toList, c.args.toList with
        | [t, tx], [x, y] => (match elemT P t, P.underlying tx with
          | some e, some .string => (match opnd fr y with
            | .str b => if isByteT P e then evAppend E (o.dst.getD 0) (opnd fr x) e (byteRows b) fr fun m fr => k (fr.finish o.dst m) else none
            | _ => none)
          | some e, some (.slice _) => fr.rows (opnd fr y) fun xs => evAppend E (o.dst.getD 0) (opnd fr x) e xs fr fun m fr => k (fr.finish o.dst m)
          | _, _ => none)
        | _, _ => none) = some r) (S : Sim fr g a.tmps w) : o.upon P a (Good r k g w a) Q ((execOp a.eval o).run P w) := by
  split at h
  · rename_i t tx x y et ea
    have et := arr2 et
    have ea := arr2 ea
    have hx := opnd_rv S x
    have hy := opnd_rv S y
    have hrun : ∀ v' w', (Builtin.append_ #[t, tx] o.type #[a.eval x, a.eval y]).run P w = .ok v' w' → (execOp a.eval o).run P w = .ok (.value v') w' := by
      intro v' w' hr
      unfold execOp; rw [ho]; generalize a.eval = ρ at *
      simp [resolve, hc, et, ea, invoke, builtin, hr]
    split at h
    · rename_i e e1 e2
      obtain ⟨hu, _⟩ := elemT_some e1
      split at h
      · rename_i b ey
        split at h
        · rename_i hb
          have hbt : P.underlying e = some (.int .u8) := by unfold isByteT at hb; split at hb <;> simp_all
          rw [ey] at hy
          have hy := rv_str hy
          by_cases h1 : tsize P e = 1
          · obtain ⟨news, hs, hr⟩ := src_str (P := P) (w := w) (s := b) e2 (p := g.prot)
            obtain ⟨v', w', m', fr', g', hr, hk, S', F, hv⟩ := evAppend_ok (tx := tx) (ty := o.type) (xv := .string b) hP h S hx hu (fun _ => ⟨news, by rw [h1]; exact hs, by rw [h1]; exact hr⟩)
            exact up_value (hrun v' w' (by rw [hy]; exact hr)) hk S' hv F
          · -- the model's bytes have one cell
            exfalso
            unfold evAppend at h
            rw [hP] at h
            split at h
            · rename_i hk
              simp only [Bool.and_eq_true] at hk
              obtain ⟨_, h2, _⟩ := okT_iff hk.1
              refine h1 (h2 ?_)
              unfold isAgg; rw [hbt]
            · simp at h
        · simp at h
      · simp at h
    · rename_i e e' e1 e2
      obtain ⟨hu, _⟩ := elemT_some e1
      obtain ⟨xs, h, hsrc⟩ := src_ok h S hy (tsize P e) e2
      obtain ⟨v', w', m', fr', g', hr, hk, S', F, hv⟩ := evAppend_ok (tx := tx) (ty := o.type) hP h S hx hu hsrc
      exact up_value (hrun v' w' hr) hk S' hv F
    · simp at h
  · simp at h
theorem s_len {c : Call} (ho : o.op = .call c) (hc : c.callee = .builtin .len) (h : (match c.argTypes.toList, c.args.toList with
        | [t], [x] => (match P.underlying t, opnd fr x with
          | some .string, .str s => k (fr.finish o.dst (.int .i64 (sLen s)))
          | some (.slice _), m => fr.rows m fun rows => k (fr.finish o.dst (.int .i64 (nrows rows)))
          | _, _ => none)
        | _, _ => none) = some r) (S : Sim fr g a.tmps w) : o.upon P a (Good r k g w a) Q ((execOp a.eval o).run P w) := by
  split at h
  · rename_i t x et ea
    have et := arr1 et
    have ea := arr1 ea
    have hx := opnd_rv S x
    have hrun : ∀ v' w', (Builtin.len_ #[t] o.type #[a.eval x]).run P w = .ok v' w' → (execOp a.eval o).run P w = .ok (.value v') w' := by
      intro v' w' hr
      unfold execOp; rw [ho]; generalize a.eval = ρ at *
      simp [resolve, hc, et, ea, invoke, builtin, hr]
    split at h
    · rename_i s e1 ex
      rw [ex] at hx
      have hx := rv_str hx
      exact up_value (hrun (.int .i64 (sLen s)) w (by rw [hx]; simp [Builtin.len_, run_und e1, goInt, sLen])) h S (.sv (.int _ _)) (Fm.refl _ _)
    · rename_i _ _ e e1
      obtain ⟨rows, ad, cp, h, ev, _⟩ := rows_ok h S hx
      exact up_value (hrun (.int .i64 (nrows rows)) w (by rw [ev]; simp [Builtin.len_, run_und e1, goInt, nrows])) h S (.sv (.int _ _)) (Fm.refl _ _)
    · simp at h
  · simp at h
theorem s_max {c : Call} (ho : o.op = .call c) (hc : c.callee = .builtin .max) (h : (match c.args.toList with
        | [x, y] => (match opnd fr x, opnd fr y with
          | .int .i64 a, .int .i64 b => k (fr.finish o.dst (.int .i64 (iMax a b)))
          | _, _ => none)
        | _ => none) = some r) (S : Sim fr g a.tmps w) : o.upon P a (Good r k g w a) Q ((execOp a.eval o).run P w) := by
  split at h
  · rename_i x y ea
    have ea := arr2 ea
    have hx := opnd_rv S x
    have hy := opnd_rv S y
    split at h
    · rename_i n m ex ey
      rw [ex] at hx; rw [ey] at hy
      have hx := rv_int hx
      have hy := rv_int hy
      refine up_value (v := .int .i64 (iMax n m)) ?_ h S (.sv (.int _ _)) (Fm.refl _ _)
      have : (if n < m then m else n) = iMax n m := by
        unfold iMax
        by_cases h1 : n < m
        · rw [if_pos h1, if_neg (by omega)]
        · rw [if_neg h1, if_pos (by omega)]
      unfold execOp; rw [ho]; generalize a.eval = ρ at *
      simp [resolve, hc, ea, invoke, builtin, Builtin.max_, hx, hy, Builtin.max2, this]
    · simp at h
  · simp at h
theorem s_min {c : Call} (ho : o.op = .call c) (hc : c.callee = .builtin .min) (h : (match c.args.toList with
        | [x, y] => (match opnd fr x, opnd fr y with
          | .int .i64 a, .int .i64 b => k (fr.finish o.dst (.int .i64 (iMin a b)))
          | _, _ => none)
        | _ => none) = some r) (S : Sim fr g a.tmps w) : o.upon P a (Good r k g w a) Q ((execOp a.eval o).run P w) := by
  split at h
  · rename_i x y ea
    have ea := arr2 ea
    have hx := opnd_rv S x
    have hy := opnd_rv S y
    split at h
    · rename_i n m ex ey
      rw [ex] at hx; rw [ey] at hy
      have hx := rv_int hx
      have hy := rv_int hy
      refine up_value (v := .int .i64 (iMin n m)) ?_ h S (.sv (.int _ _)) (Fm.refl _ _)
      have : (if m < n then m else n) = iMin n m := by
        unfold iMin
        by_cases h1 : m < n
        · rw [if_pos h1, if_neg (by omega)]
        · rw [if_neg h1, if_pos (by omega)]
      unfold execOp; rw [ho]; generalize a.eval = ρ at *
      simp [resolve, hc, ea, invoke, builtin, Builtin.min_, hx, hy, Builtin.min2, this]
    · simp at h
  · simp at h
theorem s_makeMap {t : TypeId} (ho : o.op = .makeMap t none) (h : (fr.lay (.loc (o.dst.getD 0) 0) (.map []) fun fr => k (fr.finish o.dst (.mapr (.loc (o.dst.getD 0) 0)))) = some r) (S : Sim fr g a.tmps w) :
    o.upon P a (Good r k g w a) Q ((execOp a.eval o).run P w) := by
  obtain ⟨hf, h⟩ := lay_some h
  obtain ⟨S', F⟩ := lay_sim S hf (.map []) (.box w.heap.size) (.map #[] 0) (by simp) (by simp) (fun b e => by cases e; rfl) (fun g' w' eg ew L => by
    subst eg; subst ew
    refine ⟨w.heap.size, #[], 0, setR_self, by simp, fun hp => Nat.lt_irrefl _ (S.o.plt _ hp), fun e he => by simp at he, fun s => ?_⟩
    simp [mapGet])
  refine up_value (v := .map (some w.heap.size)) ?_ h S' (.mapr setR_self) F
  unfold execOp; rw [ho]
  simp [Instr.makeMap]
end
end Kw
namespace Kw
set_option linter.unusedVariables false
set_option linter.unusedSimpArgs false
set_option linter.unusedSectionVars false
open Go
variable [Gl]
section
variable {P : Program} {R : Type} {r : R} {k : Fr → Option R} {fr : Fr} {g : G} {a : Act} {w : World} {o : Oper} {Q : Exit → Act → World → Prop}
theorem run_bound {x : Value} {y n : Nat} {code : BoundsCode} (h : n ≤ y) (hx : x = .int .i64 n) : (Instr.sliceBound x y code).run P w = .ok n w := by
  subst hx
  simp [Instr.sliceBound, asIntOf, h]
theorem run_bounds {sl : Bool} {len cap : Nat} {lo hi : Option Value} {l h : Nat} (hlo : lo = some (.int .i64 l) ∨ (lo = none ∧ l = 0)) (hhi : hi = some (.int .i64 h) ∨ (hi = none ∧ h = len)) (h1 : l ≤ h) (h2 : h ≤ cap) :
    (Instr.sliceBounds sl len cap lo hi none).run P w = .ok (l, h, cap) w := by
  unfold Instr.sliceBounds
  rcases hlo with hlo | ⟨hlo, e1⟩ <;> rcases hhi with hhi | ⟨hhi, e2⟩ <;> subst hlo <;> subst hhi <;>
    (try subst e1) <;> (try subst e2) <;>
    simp [run_bound h1 rfl, run_bound h2 rfl]
/-- a slice expression's bounds -/
theorem bound_val (S : Sim fr g a.tmps w) {y : Option Operand} {d n : Int} (h : gInt .i64 (sbound fr y d) = some n) :
    (y.map a.eval = some (.int .i64 n)) ∨ (y.map a.eval = none ∧ n = d) := by
  unfold sbound at h
  cases y with
  | none => have := gInt_some h; simp at this; exact .inr ⟨rfl, this.symm⟩
  | some y =>
    have hy := opnd_rv S y
    have e := gInt_some h
    simp only at e
    rw [e] at hy
    exact .inl (by simp [rv_int hy])
theorem s_slice {t : TypeId} {x : Operand} {lo hi mx : Option Operand} (h : (match P.underlying t, opnd fr x, mx with
      | some .string, .str s, none =>
        let l : MV := sbound fr lo 0
        let h : MV := sbound fr hi (sLen s)
        bnd (gInt .i64 l) fun l => bnd (gInt .i64 h) fun h => br (bAnd (iLe 0 l) (bAnd (iLe l h) (iLe h (sLen s)))) (k (fr.finish o.dst (.str (sSub s l h)))) none
      | some (.slice e), .sl rows, none => if (P.info? e).isSome then
        let l : MV := sbound fr lo 0
        let h : MV := sbound fr hi (nrows rows)
        bnd (gInt .i64 l) fun l => bnd (gInt .i64 h) fun h => br (bAnd (okR (tsize P e) rows) (bAnd (iLe 0 l) (bAnd (iLe l h) (iLe h (nrows rows))))) (k (fr.finish o.dst (.sl (subR rows l h)))) none else none
      | some (.slice e), .ref hd n, none => if (P.info? e).isSome then
        fr.rows (.ref hd n) fun rows =>
        let l : MV := sbound fr lo 0
        let h : MV := sbound fr hi (nrows rows)
        bnd (gInt .i64 l) fun l => bnd (gInt .i64 h) fun h => br (bAnd (iEq l 0) (iEq h (nrows rows))) (k (fr.finish o.dst (.ref hd n))) none else none
      | _, _, _ => none) = some r) (ho : o.op = .slice t x lo hi mx) (S : Sim fr g a.tmps w) : o.upon P a (Good r k g w a) Q ((execOp a.eval o).run P w) := by
  have hx := opnd_rv S x
  split at h
  · rename_i s e1 ex
    rw [ex] at hx
    have hx := rv_str hx
    obtain ⟨l, hl, h⟩ := bnd_some h
    obtain ⟨u, hu, h⟩ := bnd_some h
    rcases br_some h with ⟨hc, h⟩ | ⟨_, h⟩
    case inr => simp at h
    obtain ⟨c0, hc⟩ := bAnd_true hc
    obtain ⟨c1, c2⟩ := bAnd_true hc
    have c0 := iLe_true c0
    have c1 := iLe_true c1
    have c2 := iLe_true c2
    unfold sLen at c2
    have vl := bound_val (a := a) (d := 0) S hl
    have vu := bound_val (a := a) (d := sLen s) S hu
    have el : l = ((l.toNat : Nat) : Int) := by omega
    have eu : u = ((u.toNat : Nat) : Int) := by omega
    refine up_value (v := .string (sSub s l u)) ?_ h S (.sv (.str _)) (Fm.refl _ _)
    have hb := run_bounds (P := P) (w := w) (sl := false) (len := s.size) (cap := s.size) (lo := lo.map a.eval) (hi := hi.map a.eval) (l := l.toNat) (h := u.toNat)
      (by rcases vl with v | ⟨v, e⟩
          · exact .inl (by rw [v, ← el])
          · exact .inr ⟨v, by omega⟩)
      (by rcases vu with v | ⟨v, e⟩
          · exact .inl (by rw [v, ← eu])
          · exact .inr ⟨v, by unfold sLen at e; omega⟩) (by omega) (by omega)
    unfold execOp; rw [ho]; generalize a.eval = ρ at *
    simp [hx, Instr.sliceAt, run_und e1, Instr.slice, hb, sSub]
  · rename_i e rows e1 ex
    rw [ex] at hx
    split at h
    case isFalse => simp at h
    rename_i hf
    obtain ⟨f, hf⟩ := Option.isSome_iff_exists.1 hf
    obtain ⟨l, hl, h⟩ := bnd_some h
    obtain ⟨u, hu, h⟩ := bnd_some h
    rcases br_some h with ⟨hc, h⟩ | ⟨_, h⟩
    case inr => simp at h
    obtain ⟨hok, hc⟩ := bAnd_true hc
    obtain ⟨c0, hc⟩ := bAnd_true hc
    obtain ⟨c1, c2⟩ := bAnd_true hc
    have c0 := iLe_true c0
    have c1 := iLe_true c1
    have c2 := iLe_true c2
    unfold nrows at c2
    have vl := bound_val (a := a) (d := 0) S hl
    have vu := bound_val (a := a) (d := nrows rows) S hu
    have el : l = ((l.toNat : Nat) : Int) := by omega
    have eu : u = ((u.toNat : Nat) : Int) := by omega
    have hs := rv_sl hx
    generalize hv : a.eval x = v at hs
    cases hs with
    | @sl ad n c _ sz vf hn hcap hrow had hsv =>
      subst hn
      have hb := run_bounds (P := P) (w := w) (sl := true) (len := rows.length) (cap := c) (lo := lo.map a.eval) (hi := hi.map a.eval) (l := l.toNat) (h := u.toNat)
        (by rcases vl with v | ⟨v, e⟩
            · exact .inl (by rw [v, ← el])
            · exact .inr ⟨v, by omega⟩)
        (by rcases vu with v | ⟨v, e⟩
            · exact .inl (by rw [v, ← eu])
            · exact .inr ⟨v, by unfold nrows at e; omega⟩) (by omega) (by omega)
      refine up_value (v := .slice (if c = l.toNat then ad else ad.map (·.add (l.toNat * tsize P e))) (u.toNat - l.toNat) (c - l.toNat)) ?_ h S (.sv ?_) (Fm.refl _ _)
      · unfold execOp; rw [ho]; generalize a.eval = ρ at *
        simp [hv, Instr.sliceAt, run_und e1, Instr.slice, hb, run_size hf]
      · have hsub : ∀ (i : Nat) (row : Row), (subR rows l u)[i]? = some row → rows[l.toNat + i]? = some row ∧ l.toNat + i < u.toNat := by
          intro i row hi
          unfold subR at hi
          rw [List.getElem?_drop, List.getElem?_take] at hi
          split at hi
          · rename_i hlt; exact ⟨hi, hlt⟩
          · simp at hi
        refine .sl sz (fun i j => vf (l.toNat + i) j) (by unfold subR; simp; omega) (by omega) (fun i row hi => hrow _ row (hsub i row hi).1) (fun hpos => ?_) (fun i row j m hi hj => hsv _ row j m (hsub i row hi).1 hj)
        obtain ⟨ad', e3, hsp, hp, hcell⟩ := had (by omega)
        subst e3
        have e4 : ad' = ⟨ad'.block, ad'.off, none⟩ := by cases ad'; simp at hsp; subst hsp; rfl
        have hne : ¬ c = l.toNat := by omega
        have hsz : sz = tsize P e := by
          have h1 : rows[0]? = some (rows[0]'(by omega)) := List.getElem?_eq_getElem (by omega)
          rw [← hrow 0 _ h1]
          exact okR_iff.1 hok _ (List.getElem_mem _)
        refine ⟨⟨ad'.block, ad'.off + l.toNat * sz, none⟩, ?_, rfl, hp, fun i row j m hi hj => ?_⟩
        · rw [if_neg hne, e4, ← hsz]; simp [addAt]
        · have := hcell _ row j m (hsub i row hi).1 hj
          have e5 : ad'.off + l.toNat * sz + (i * sz + j) = ad'.off + ((l.toNat + i) * sz + j) := by rw [Nat.add_mul]; omega
          show w.cell? ⟨ad'.block, ad'.off + l.toNat * sz + (i * sz + j), none⟩ = _
          rw [e5]; exact this
  · rename_i e hd n e1 ex
    rw [ex] at hx
    split at h
    case isFalse => simp at h
    rename_i hf
    obtain ⟨f, hf⟩ := Option.isSome_iff_exists.1 hf
    obtain ⟨rows, ad, cp, h, ev, hle, _⟩ := rows_ok h S hx
    obtain ⟨l, hl, h⟩ := bnd_some h
    obtain ⟨u, hu, h⟩ := bnd_some h
    rcases br_some h with ⟨hc, h⟩ | ⟨_, h⟩
    case inr => simp at h
    obtain ⟨c0, c1⟩ := bAnd_true hc
    have c0 := iEq_true c0
    have c1 := iEq_true c1
    have vl := bound_val (a := a) (d := 0) S hl
    have vu := bound_val (a := a) (d := nrows rows) S hu
    have hb := run_bounds (P := P) (w := w) (sl := true) (len := rows.length) (cap := cp) (lo := lo.map a.eval) (hi := hi.map a.eval) (l := 0) (h := rows.length)
        (by rcases vl with v | ⟨v, e⟩
            · exact .inl (by rw [v, c0]; rfl)
            · exact .inr ⟨v, rfl⟩)
        (by rcases vu with v | ⟨v, e⟩
            · exact .inl (by rw [v, c1]; rfl)
            · exact .inr ⟨v, rfl⟩) (by omega) hle
    refine up_value (v := a.eval x) ?_ h S hx (Fm.refl _ _)
    have hz : (ad.map fun x => x.add 0) = ad := by cases ad with
      | none => rfl
      | some y => simp [Addr.add]
    unfold execOp; rw [ho]; generalize a.eval = ρ at *
    simp [ev, Instr.sliceAt, run_und e1, Instr.slice, hb, run_size hf, hz]
  · simp at h
end
end Kw
namespace Kw
set_option linter.unusedVariables false
set_option linter.unusedSimpArgs false
set_option linter.unusedSectionVars false
open Go
variable [Gl]
section
variable {Rr : Value → MV → Prop}
theorem foldSet : ∀ (l : List Value) (k off : Nat) (cs : Array Value), (l.zipIdx k).foldl (fun cs (c, j) => cs.setIfInBounds (off + j) c) cs = (setV cs.toList (off + k) l).toArray
  | [], _, _, cs => by simp [setV]
  | v :: l, k, off, cs => by
    rw [List.zipIdx_cons, List.foldl_cons, foldSet l (k + 1) off, setV]
    simp [Nat.add_assoc]
theorem foldSetA (vs cs : Array Value) (off : Nat) : vs.zipIdx.foldl (fun cs (c, j) => cs.setIfInBounds (off + j) c) cs = (setV cs.toList off vs.toList).toArray := by
  rw [← Array.foldl_toList, Array.toList_zipIdx, foldSet]; simp
inductive PR (Rr : Value → MV → Prop) : List (Nat × Value) → List (Nat × List MV) → Prop
  | nil : PR Rr [] []
  | cons {i : Nat} {v : Value} {ms : List MV} {ps : List (Nat × Value)} {qs : List (Nat × List MV)} (h : Rl Rr v.cells.toList ms) (t : PR Rr ps qs) : PR Rr ((i, v) :: ps) ((i, ms) :: qs)
theorem PR.mono {Rr' : Value → MV → Prop} {ps : List (Nat × Value)} {qs : List (Nat × List MV)} (h : PR Rr ps qs) (hm : ∀ v m, Rr v m → Rr' v m) : PR Rr' ps qs := by
  induction h with
  | nil => exact .nil
  | cons h _ ih => exact .cons (h.mono hm) ih
theorem fill_ok {place : Nat → Option (Nat × Nat)} {ps : List (Nat × Value)} {qs : List (Nat × List MV)} (h : PR Rr ps qs) : ∀ {cells : Array Value} {mc out : List MV}, Rl Rr cells.toList mc → fillE place mc qs = some out →
    ∃ out' : Array Value, Instr.fill place cells ps = some out' ∧ Rl Rr out'.toList out := by
  induction h with
  | nil => intro cells mc out hc he; simp [fillE] at he; subst he; exact ⟨cells, rfl, hc⟩
  | @cons i v ms ps qs hv t ih =>
    intro cells mc out hc he
    unfold fillE at he
    unfold Instr.fill
    split at he
    · simp at he
    · rename_i off size hp
      split at he
      · rename_i hcond
        simp only [Bool.and_eq_true, beq_iff_eq, Nat.ble_eq] at hcond
        obtain ⟨h1, h2⟩ := hcond
        have hl := hv.len
        have hlc := hc.len
        simp at hl hlc
        have hno : ¬ (v.cells.size ≠ size ∨ off + v.cells.size > cells.size) := by omega
        simp only [hp]
        rw [if_neg (by simpa using hno), foldSetA]
        exact ih (by simpa using rl_setC hv off hc) he
      · simp at he
end
section
variable {P : Program} {R : Type} {r : R} {k : Fr → Option R} {fr : Fr} {g : G} {a : Act} {w : World} {o : Oper} {Q : Exit → Act → World → Prop}
theorem partsE_ok (S : Sim fr g a.tmps w) : ∀ {ps : List (Nat × Operand)} {qs : List (Nat × List MV)}, partsE fr ps = some qs → PR (RV g (cur fr.ob) w) (ps.map fun p => (p.1, a.eval p.2)) qs
  | [], qs, h => by simp [partsE] at h; subst h; exact .nil
  | (i, x) :: ps, qs, h => by
    have hx := opnd_rv S x
    unfold partsE at h
    split at h
    · rename_i cs rr e1 e2
      cases h
      rw [e1] at hx
      obtain ⟨hl, hr⟩ := rv_cells hx (.inr ⟨cs, rfl⟩)
      exact .cons (rl_of _ _ (by simpa [cellsOf] using hl) (fun j v' m' h1 h2 => hr j v' m' (by simpa using h1) h2)) (partsE_ok S e2)
    · rename_i m rr e2 _
      split at h
      · rename_i hone
        cases h
        have := (hx.one hone).2
        exact .cons (by simp only [this]; exact .cons hx .nil) (partsE_ok S e2)
      · simp at h
    · simp at h
theorem freezeP_ok {tmps : Array Value} : ∀ {qs : List (Nat × List MV)} {ps : List (Nat × Value)} {fr : Fr} {g : G} {kk : List (Nat × List MV) → Fr → Option R}, freezeP qs fr kk = some r → Sim fr g tmps w → PR (RV g (cur fr.ob) w) ps qs →
    ∃ qs' fr' g', kk qs' fr' = some r ∧ Froze fr fr' g g' tmps w ∧ PR (SV w g'.prot) ps qs'
  | [], _, fr, g, kk, h, S, hp => by cases hp; exact ⟨[], fr, g, h, Froze.refl S, .nil⟩
  | (i, ms) :: qs, _, fr, g, kk, h, S, hp => by
    cases hp with
    | cons hv t =>
      unfold freezeP at h
      obtain ⟨ms', fr1, g1, h, F1, sv⟩ := freezeL_ok h S hv
      obtain ⟨qs', fr2, g2, h, F2, svs⟩ := freezeP_ok h F1.sim (t.mono fun _ _ h => h.mono F1.later)
      exact ⟨_, fr2, g2, h, F1.trans F2, .cons (sv.mono fun _ _ h => h.up F2.later) svs⟩
theorem s_build {t : TypeId} {parts : Array (Nat × Operand)} (ho : o.op = .build t parts) (h : (match P.underlying t with
      | some (.struct fs) => (match partsE fr parts.toList with
        | some ps => if zeroOk P t && fs.all (fun f => (P.info? f.type).isSome) then
          (match fillE (fun i => match fs[i]? with | some f => some (f.offset, tsize P f.type) | none => none) ((tzero P t).map ofCell) ps with
          | some out => k (fr.finish o.dst (.agg out))
          | none => none) else none
        | none => none)
      | _ => none) = some r) (S : Sim fr g a.tmps w) : o.upon P a (Good r k g w a) Q ((execOp a.eval o).run P w) := by
  split at h
  case h_2 => simp at h
  rename_i fs hu
  split at h
  case h_2 => simp at h
  rename_i ps hps
  split at h
  case isFalse => simp at h
  rename_i hc
  simp only [Bool.and_eq_true] at hc
  obtain ⟨hz, hinf⟩ := hc
  split at h
  case h_2 => simp at h
  rename_i out hfill
  have hpr := partsE_ok S hps
  have hzz : ∃ i v, P.info? t = some i ∧ i.zero = some v ∧ v.cells.toList = tzero P t := by
    unfold zeroOk at hz
    split at hz
    · rename_i i hi
      split at hz
      · rename_i v hv
        exact ⟨i, v, hi, hv, by unfold tzero; rw [hi]; simp [hv]⟩
      · simp at hz
    · simp at hz
  obtain ⟨it, z, hit, hz, hzc⟩ := hzz
  have hr0 : Rl (RV g (cur fr.ob) w) z.cells.toList ((tzero P t).map ofCell) := by
    rw [← hzc]
    refine rl_of _ _ (by simp) (fun j v m h1 h2 => ?_)
    rw [List.getElem?_map, h1] at h2
    cases h2; exact rv_ofCell g _ w v
  obtain ⟨out', hf, hr⟩ := fill_ok hpr hr0 hfill
  have hpl : ∀ l : List Field, (∀ f ∈ l, (P.info? f.type).isSome = true) → l.mapM (fun f => (P.info? f.type).map fun i => (f.offset, i.size)) = some (l.map fun f => (f.offset, tsize P f.type)) := by
    intro l
    induction l with
    | nil => intro _; rfl
    | cons f l ih =>
      intro hl
      obtain ⟨i, hi⟩ := Option.isSome_iff_exists.1 (hl f (by simp))
      have : tsize P f.type = i.size := by unfold tsize; rw [hi]
      simp [List.mapM_cons, hi, ih (fun f' h' => hl f' (by simp [h'])), this]
  have hbuilt : P.built t (parts.toList.map fun p => (p.1, a.eval p.2)) = some out' := by
    unfold Program.built
    rw [hit, hu]
    simp only [hz]
    rw [hpl fs.toList (fun f hf => by
      have := Array.all_eq_true.1 hinf
      obtain ⟨j, hj, e⟩ := List.mem_iff_getElem.1 hf
      have := this j (by simpa using hj)
      rw [← e]; simpa using this)]
    simp only
    rw [← hf]
    congr 1
    funext i
    rw [List.getElem?_toArray, List.getElem?_map, Array.getElem?_toList]
    cases fs[i]? <;> rfl
  refine up_value (v := .agg out') ?_ h S (.agg (by have := hr.len; simpa using this) (fun j v m h1 h2 => hr.at j v m (by simpa using h1) h2)) (Fm.refl _ _)
  have hb := run_build w t (parts.map fun p => (p.1, a.eval p.2)) out' (by rw [Array.toList_map]; exact hbuilt)
  unfold execOp; rw [ho]; generalize a.eval = ρ at *
  simp only [Sem.run_bind]
  rw [show (parts.map fun (i, x) => (i, ρ x)) = parts.map fun p => (p.1, ρ p.2) from rfl, hb]
  rfl
end
end Kw
namespace Kw
set_option linter.unusedVariables false
set_option linter.unusedSimpArgs false
set_option linter.unusedSectionVars false
open Go
variable [Gl]
section
variable {P : Program} {R : Type} {r : R} {k : Fr → Option R} {fr : Fr} {g : G} {a : Act} {w : World} {o : Oper} {Q : Exit → Act → World → Prop}
/-- a new slice -/
theorem lay_rows {tmps : Array Value} (S : Sim fr g tmps w) {h : H} (hi : ∀ i, h ≠ .imp i) (hf : h ∉ fr.ob.map (·.1)) (arr : Array Value) (ty : TypeId) (sz : Nat) (rows : List Row) (hs : arr.size = rows.length * sz) (hr : RowsR w g.prot arr sz rows) :
    Sim (fr.setObj h (.rows rows)) (g.setR h (.mem w.heap.size rows.length sz)) tmps { w with heap := w.heap.push (.cells arr ty (0, 0)) } ∧ Fm g w (g.setR h (.mem w.heap.size rows.length sz)) { w with heap := w.heap.push (.cells arr ty (0, 0)) } ∧
      RV (g.setR h (.mem w.heap.size rows.length sz)) (cur (fr.setObj h (.rows rows)).ob) { w with heap := w.heap.push (.cells arr ty (0, 0)) } (.slice (some ⟨w.heap.size, 0, none⟩) rows.length rows.length) (.ref h (nrows rows)) := by
  obtain ⟨S', F⟩ := lay_sim S hf (.rows rows) (.mem w.heap.size rows.length sz) (.cells arr ty (0, 0)) (by simp) hi (fun b e => by cases e; rfl) (fun g' w' eg ew L => by
    subst eg; subst ew
    exact .inr ⟨w.heap.size, rows.length, sz, arr, ty, setR_self, by simp, fun hp => Nat.lt_irrefl _ (S.o.plt _ hp), ⟨Nat.le_of_eq hs.symm, fun e => .inl (by rw [e]; rfl)⟩, Nat.le_refl _, RowsR.mono (w := w) hr (fun _ h => h) L.heap⟩)
  refine ⟨S', F, .ref setR_self ?_ (fun _ => ?_) rfl⟩
  · show _ ≤ cur (put fr.ob h _) h
    rw [cur_rows]; exact Int.le_refl _
  · unfold nrows; simp
theorem sv_of_one {p : Nat → Prop} {v : Value} {m : MV} (h : m = .undef ∨ SV w p v m) (hm : m.svOne = true) : SV w p v m := by
  rcases h with h | h
  · subst h; simp [MV.svOne] at hm
  · exact h
/-- the cells of zeros -/
theorem zero_rel {e : TypeId} {p : Nat → Prop} (j : Nat) {v : Value} (hv : (tzero P e)[j]? = some v) {m : MV} (hm : (zeroRow P e)[j]? = some m) : m = .undef ∨ SV w p v m := by
  unfold zeroRow at hm
  rw [List.getElem?_map, hv] at hm
  simp only [Option.map_some, Option.some.injEq] at hm
  subst hm
  unfold ofCell
  split <;> rename_i hc
  · split at hc <;> first | cases hc | skip
    exact .inr (sv_nil w p)
  · exact .inl rfl
  · split at hc <;> first | (exact absurd rfl hc) | skip
    all_goals first
      | exact .inr (.bool _)
      | exact .inr (.int _ _)
      | exact .inr .ifN
      | exact .inr (.str _)
      | exact .inl rfl
      | skip
    all_goals simp_all
theorem zeroRow_len {e : TypeId} (hk : okT P e = true) : (zeroRow P e).length = tsize P e := by
  unfold zeroRow; rw [List.length_map]; exact (okT_iff hk).2.2
theorem s_makeSlice {t : TypeId} {l c : Operand} (ho : o.op = .makeSlice t l c) (h : (match elemT P t, opnd fr l, opnd fr c with
      | some e, .int _ n, .int _ m => if okT P e && (Nat.ble 1 (tbytes P e) && (zeroRow P e).all MV.svOne) then br (bAnd (iEq n m) (bAnd (iLe 0 n) (fits n 0 (tbytes P e)))) (fr.lay (.loc (o.dst.getD 0) 0) (.rows (repR n (zeroRow P e))) fun fr => k (fr.finish o.dst (.ref (.loc (o.dst.getD 0) 0) (nrows (repR n (zeroRow P e)))))) none else none
      | _, _, _ => none) = some r) (S : Sim fr g a.tmps w) : o.upon P a (Good r k g w a) Q ((execOp a.eval o).run P w) := by
  have hx := opnd_rv S l
  have hy := opnd_rv S c
  split at h
  case h_2 => simp at h
  rename_i e kl n kc m he el ec
  rw [el] at hx; rw [ec] at hy
  have hx := rv_int hx
  have hy := rv_int hy
  split at h
  case isFalse => simp at h
  rename_i hc
  simp only [Bool.and_eq_true, Nat.ble_eq] at hc
  obtain ⟨hk, hb, hone⟩ := hc
  rcases br_some h with ⟨hc, h2⟩ | ⟨_, h2⟩
  case inr => simp at h2
  clear h
  obtain ⟨hnm, hc⟩ := bAnd_true hc
  obtain ⟨h0, hfit⟩ := bAnd_true hc
  have hnm := iEq_true hnm
  subst hnm
  have h0 := iLe_true h0
  obtain ⟨hf, h⟩ := lay_some h2
  obtain ⟨hu, _⟩ := elemT_some he
  obtain ⟨i, z, hi, hz, hzc, hzs⟩ := zero_cells hk
  have hsz : i.size = tsize P e := by unfold tsize; rw [hi]
  have hby : i.bytes = tbytes P e := by unfold tbytes; rw [hi]
  obtain ⟨q, hq⟩ : ∃ q : Nat, n = q := ⟨n.toNat, by omega⟩
  subst hq
  have hfit' : q * tbytes P e ≤ 2 ^ 46 := by
    unfold fits at hfit
    simp only [decide_eq_true_eq, Int.add_zero] at hfit
    have : ((q * tbytes P e : Nat) : Int) ≤ ((2 ^ 46 : Nat) : Int) := by rw [Int.natCast_mul]; exact hfit
    exact Int.ofNat_le.1 this
  have hq46 : q ≤ 2 ^ 46 := Nat.le_trans (Nat.le_mul_of_pos_right _ hb) hfit'
  have hrun := run_make (P := P) w t e i z hu hi hz kl kc (q : Int) (q : Int) h0 (Int.le_refl _) (by
    rw [hby, ← Int.natCast_mul, Nat.mul_comm]
    have : ((q * tbytes P e : Nat) : Int) ≤ ((2 ^ 46 : Nat) : Int) := Int.ofNat_le.2 hfit'
    omega) (by omega)
  have hrl : (repR (q : Int) (zeroRow P e)).length = q := by unfold repR; simp
  have hzl := zeroRow_len hk
  obtain ⟨S', F, hv⟩ := lay_rows S (by simp) hf (madeCells z.cells (q * i.size)) e (tsize P e) (repR (q : Int) (zeroRow P e)) (by rw [hrl, hsz]; simp [madeCells]) (fun j row hj => by
    have hjq : j < q := by rw [← hrl]; exact (List.getElem?_eq_some_iff.1 hj).1
    have hrow : row = zeroRow P e := by
      unfold repR at hj
      rw [List.getElem?_replicate] at hj
      simp [hjq] at hj; exact hj.symm
    subst hrow
    refine ⟨hzl, fun p m hp => ?_⟩
    have hps : p < tsize P e := by rw [← hzl]; exact (List.getElem?_eq_some_iff.1 hp).1
    have hlt : j * tsize P e + p < q * tsize P e := by
      have : (j + 1) * tsize P e ≤ q * tsize P e := Nat.mul_le_mul_right _ hjq
      rw [Nat.add_mul] at this; omega
    have hmod : (j * tsize P e + p) % z.cells.size = p := by
      rw [hzs, Nat.mul_comm, Nat.mul_add_mod, Nat.mod_eq_of_lt hps]
    have hv : (tzero P e)[p]? = some (z.cells[p]'(by omega)) := by
      rw [← hzc, Array.getElem?_toList, Array.getElem?_eq_getElem (by omega)]
    refine ⟨z.cells[p]'(by omega), ?_, sv_of_one (zero_rel p hv hp) (List.all_eq_true.1 hone _ (List.mem_of_getElem? hp))⟩
    unfold madeCells
    rw [hsz, Array.getElem?_map, Array.getElem?_range, if_pos hlt]
    simp only [Option.map_some]
    rw [hmod, getElem!_pos z.cells p (by omega)])
  refine up_value ?_ h S' hv F
  rw [hrl]
  unfold execOp; rw [ho]; generalize a.eval = ρ at *
  simp only [Sem.run_bind, hx, hy, hrun, Result.andThen_ok]
  rfl
end
end Kw
namespace Kw
set_option linter.unusedVariables false
set_option linter.unusedSimpArgs false
set_option linter.unusedSectionVars false
open Go
variable [Gl]
section
variable {P : Program} {R : Type} {r : R} {k : Fr → Option R} {fr : Fr} {g : G} {a : Act} {w : World} {o : Oper} {Q : Exit → Act → World → Prop}
theorem fillE_len {place : Nat → Option (Nat × Nat)} : ∀ {qs : List (Nat × List MV)} {mc out : List MV}, fillE place mc qs = some out → out.length = mc.length
  | [], mc, out, h => by simp [fillE] at h; rw [h]
  | (i, ms) :: qs, mc, out, h => by
    unfold fillE at h
    split at h
    · simp at h
    · split at h
      · have := fillE_len h
        rw [this, setC_len]
      · simp at h
theorem run_buildSlice0 {w : World} {t e : TypeId} {len : Nat} {parts : Array (Nat × Value)} {cells : Array Value} {ie : TypeInfo} (hu : P.underlying t = some (.slice e)) (hie : P.info? e = some ie) (h0 : len * ie.size = 0)
    (h : Instr.fill (fun i => some (i * ie.size, ie.size)) #[] parts.toList = some cells) :
    (Instr.buildSlice t len parts).run P w = .ok (.slice (some ⟨w.heap.size, 0, none⟩) len len) (w.alloc (.cells cells e)) := by
  have e0 : ∀ f : Nat → Value, (Array.range 0).map f = #[] := fun f => by apply Array.ext'; simp
  simp [Instr.buildSlice, run_underlying hu, Go.sizeOf, typeInfo, hie, h0, newRow]
  rw [e0, h]
  simp
theorem s_buildSlice {t : TypeId} {n : Nat} {parts : Array (Nat × Operand)} (ho : o.op = .buildSlice t n parts) (h : (match elemT P t with
      | some e => (match partsE fr parts.toList with
        | some ps => freezeP ps fr fun ps fr =>
          (match fillE (fun i => some (i * tsize P e, tsize P e)) (zeroCs P e n) ps with
          | some out => if okT P e && (Nat.ble (n * tsize P e) 16777216 && out.all MV.svOne) then
              fr.lay (.loc (o.dst.getD 0) 0) (.rows (chop (tsize P e) n out)) fun fr => k (fr.finish o.dst (.ref (.loc (o.dst.getD 0) 0) (nrows (chop (tsize P e) n out)))) else none
          | none => none)
        | none => none)
      | none => none) = some r) (S : Sim fr g a.tmps w) : o.upon P a (Good r k g w a) Q ((execOp a.eval o).run P w) := by
  split at h
  case h_2 => simp at h
  rename_i e he
  obtain ⟨hu, _⟩ := elemT_some he
  split at h
  case h_2 => simp at h
  rename_i ps hps
  obtain ⟨qs, fr1, g1, h, Fz, hpr⟩ := freezeP_ok h S (partsE_ok S hps)
  split at h
  case h_2 => simp at h
  rename_i out hfill
  split at h
  case isFalse => simp at h
  rename_i hc
  simp only [Bool.and_eq_true, Nat.ble_eq] at hc
  obtain ⟨hk, hsm, hone⟩ := hc
  obtain ⟨hf, h⟩ := lay_some h
  obtain ⟨i, z, hi, hz, hzc, hzs⟩ := zero_cells hk
  have hsz : i.size = tsize P e := by unfold tsize; rw [hi]
  have hzl := zeroRow_len hk
  have hol : out.length = n * tsize P e := by rw [fillE_len hfill]; unfold zeroCs; simp
  -- the zeros
  have hr0 : Rl (fun v m => m = .undef ∨ SV w g1.prot v m) ((Array.range (n * i.size)).map (z.cells[· % z.cells.size]!)).toList (zeroCs P e n) := by
    refine rl_of _ _ (by unfold zeroCs; simp [hsz]) (fun q v m h1 h2 => ?_)
    have hq : q < n * tsize P e := by
      have := (List.getElem?_eq_some_iff.1 h2).1
      unfold zeroCs at this; simpa using this
    have hpos : 0 < tsize P e := Nat.pos_of_ne_zero (fun e0 => by rw [e0] at hq; simp at hq)
    have hm := Nat.mod_lt q hpos
    rw [Array.getElem?_toList, Array.getElem?_map, hsz, Array.getElem?_range, if_pos hq] at h1
    unfold zeroCs at h2
    rw [List.getElem?_map, List.getElem?_range hq] at h2
    simp only [Option.map_some, Option.some.injEq] at h1 h2
    rw [hzs, getElem!_pos z.cells _ (by omega)] at h1
    have hz1 : (zeroRow P e)[q % tsize P e]? = some ((zeroRow P e)[q % tsize P e]'(by omega)) := List.getElem?_eq_getElem (by omega)
    rw [List.getD_eq_getElem?_getD, hz1] at h2
    simp only [Option.getD_some] at h2
    rw [← h1]
    refine zero_rel (P := P) (e := e) (q % tsize P e) ?_ (by rw [hz1, h2])
    rw [← hzc, Array.getElem?_toList, Array.getElem?_eq_getElem (by omega)]
  obtain ⟨cells, hfl, hr⟩ := fill_ok (hpr.mono fun v m h => .inr h) hr0 hfill
  have hcl : cells.size = n * tsize P e := by have := hr.len; simp at this; omega
  have hrl : (chop (tsize P e) n out).length = n := by unfold chop; simp
  have hrun : (Instr.buildSlice t n (parts.map fun p => (p.1, a.eval p.2))).run P w = .ok (.slice (some ⟨w.heap.size, 0, none⟩) n n) (w.alloc (.cells cells e)) := by
    by_cases h0 : n * i.size = 0
    · refine run_buildSlice0 hu hi h0 ?_
      rw [Array.toList_map, ← hfl, hsz, ← hsz, h0]
      congr 1
      apply Array.ext'; simp
    · refine run_buildSlice w t e n _ cells i z hu hi hz (by rw [hsz]; omega) h0 ?_
      rw [Array.toList_map, ← hfl, hsz]
  obtain ⟨S', F, hv⟩ := lay_rows Fz.sim (by simp) hf cells e (tsize P e) (chop (tsize P e) n out) (by rw [hrl, hcl]) (fun q row hq => by
    have hqn : q < n := by rw [← hrl]; exact (List.getElem?_eq_some_iff.1 hq).1
    unfold chop at hq
    rw [List.getElem?_map, List.getElem?_range hqn] at hq
    simp only [Option.map_some, Option.some.injEq] at hq
    have hle : (q + 1) * tsize P e ≤ n * tsize P e := Nat.mul_le_mul_right _ hqn
    rw [Nat.add_mul] at hle
    subst hq
    refine ⟨by simp; omega, fun j m hj => ?_⟩
    have hjs : j < tsize P e := by
      have := (List.getElem?_eq_some_iff.1 hj).1
      simp at this; omega
    rw [List.getElem?_take_of_lt hjs, List.getElem?_drop] at hj
    obtain ⟨v, hv, hs⟩ := hr.get hj
    exact ⟨v, by simpa using hv, sv_of_one hs (List.all_eq_true.1 hone _ (List.mem_of_getElem? hj))⟩)
  refine up_value ?_ h S' hv (Fz.fm.trans F)
  rw [hrl]
  unfold execOp; rw [ho]; generalize a.eval = ρ at *
  simp only [Sem.run_bind]
  rw [show (parts.map fun (i, x) => (i, ρ x)) = parts.map fun p => (p.1, ρ p.2) from rfl, hrun]
  rfl
end
end Kw
namespace Kw
set_option linter.unusedVariables false
set_option linter.unusedSimpArgs false
set_option linter.unusedSectionVars false
open Go
variable [Gl]
theorem ba_inj {a b : ByteArray} (h : a.toList = b.toList) : a = b := by
  rw [ByteArray.toList_eq, ByteArray.toList_eq] at h
  cases a; cases b; simp at h; rw [h]
theorem ba_beq (a b : ByteArray) : (a == b) = (b.toList == a.toList) := by
  have h : (a == b) = (a.data == b.data) := by cases a; cases b; rfl
  rw [h, Bool.eq_iff_iff, ByteArray.toList_eq, ByteArray.toList_eq]
  simp only [beq_iff_eq]
  exact ⟨fun h => by rw [h], fun h => by rw [Array.toList_inj.1 h]⟩
theorem findNow_str (s : ByteArray) : ∀ (l : List MapEntry) (i : Nat), (∀ e ∈ l, ∃ s b, e.key = .string s ∧ e.val = .bool b) →
    (Instr.findNow .string (.string s) l i = some none ∧ l.find? (kp s) = none) ∨
    ∃ j e, l[j]? = some e ∧ Instr.findNow .string (.string s) l i = some (some (i + j, e.val)) ∧ l.find? (kp s) = some e ∧ e.key = .string s ∧ ∀ j' e', j' < j → l[j']? = some e' → kp s e' = false
  | [], i, _ => .inl ⟨rfl, rfl⟩
  | e :: l, i, h => by
    obtain ⟨s', b, hk, hv⟩ := h e (by simp)
    unfold Instr.findNow
    rw [hk]
    simp only [Instr.sameNow, ba_beq]
    cases hc : (s'.toList == s.toList) with
    | true =>
      have hkp : kp s e = true := by unfold kp; rw [hk]; exact hc
      have : s' = s := ba_inj (by simpa using hc)
      subst this
      exact .inr ⟨0, e, rfl, by simp, by simp [List.find?_cons, hkp], hk, fun j' e' h => absurd h (Nat.not_lt_zero _)⟩
    | false =>
      have hkp : kp s e = false := by unfold kp; rw [hk]; exact hc
      rcases findNow_str s l (i + 1) (fun e' h' => h e' (by simp [h'])) with ⟨h1, h2⟩ | ⟨j, e', h1, h2, h3, h4, h5⟩
      · exact .inl ⟨by simpa using h1, by simp [List.find?_cons, hkp, h2]⟩
      · refine .inr ⟨j + 1, e', by simpa using h1, ?_, by simp [List.find?_cons, hkp, h3], h4, fun j' e'' hj he => ?_⟩
        · simp only [h2]; congr 3; omega
        · cases j' with
          | zero => simp at he; subst he; exact hkp
          | succ j' => exact h5 j' e'' (by omega) (by simpa using he)
theorem mapGet_set (es : List (ByteArray × Bool)) (s s' : ByteArray) (b : Bool) : mapGet (mapSet es s b) s' = if s.toList == s'.toList then b else mapGet es s' := by
  unfold mapGet mapSet
  rw [List.find?_cons]
  cases h : (s.toList == s'.toList) <;> simp
theorem kp_key {s s' : ByteArray} {e : MapEntry} (h : e.key = .string s) : kp s' e = (s.toList == s'.toList) := by unfold kp; rw [h]
theorem find_modify {s s' : ByteArray} {f : MapEntry → MapEntry} : ∀ {l : List MapEntry} {j : Nat} {e : MapEntry}, l[j]? = some e → e.key = .string s → (f e).key = .string s → (∀ j' e', j' < j → l[j']? = some e' → kp s e' = false) →
    (l.modify j f).find? (kp s') = if s.toList == s'.toList then some (f e) else l.find? (kp s')
  | [], j, e, h, _, _, _ => by simp at h
  | x :: l, 0, e, h, hk, hf, _ => by
    simp at h; subst h
    rw [List.modify_zero_cons, List.find?_cons, List.find?_cons, kp_key hf, kp_key hk]
    cases (s.toList == s'.toList) <;> simp
  | x :: l, j + 1, e, h, hk, hf, hb => by
    rw [List.modify_succ_cons, List.find?_cons, List.find?_cons]
    have ih := find_modify (s' := s') (f := f) (l := l) (j := j) (by simpa using h) hk hf (fun j' e' hj he => hb (j' + 1) e' (by omega) (by simpa using he))
    have hx := hb 0 x (by omega) rfl
    rw [ih]
    cases hc : (s.toList == s'.toList) with
    | true =>
      have : s = s' := ba_inj (by simpa using hc)
      subst this
      rw [hx]
    | false => simp
section
variable {P : Program} {R : Type} {r : R} {k : Fr → Option R} {fr : Fr} {g : G} {a : Act} {w : World} {o : Oper} {Q : Exit → Act → World → Prop}
theorem mapOk_some {t : TypeId} (h : mapOk P t = true) : ∃ kt et i, P.underlying t = some (.map kt et) ∧ P.underlying kt = some .string ∧ P.info? et = some i ∧ i.zero = some (.bool false) := by
  unfold mapOk at h
  split at h
  · rename_i kt et hu
    simp only [Bool.and_eq_true] at h
    obtain ⟨h1, h2⟩ := h
    have hs : P.underlying kt = some .string := by unfold isStringT at h1; split at h1 <;> simp_all
    split at h2
    · rename_i i hi
      split at h2
      · rename_i b hz
        simp at h2; subst h2
        exact ⟨kt, et, i, hu, hs, hi, hz⟩
      · simp at h2
    · simp at h2
  · simp at h
theorem run_checkKey {kt : TypeId} (hs : P.underlying kt = some .string) (e : Bool) (v : Value) : (Instr.checkKey e 10000 kt v).run P w = .ok () w := by
  show (Instr.checkKey e (9999 + 1) kt v).run P w = .ok () w
  unfold Instr.checkKey
  simp [run_und hs]
theorem run_get {b : Nat} {ents : Array MapEntry} {clk : Nat} (h : w.heap[b]? = some (.map ents clk)) : (getObj b).run P w = .ok (.map ents clk) w := by
  simp only [getObj, Sem.run, h]
theorem run_set {b : Nat} {ents ents' : Array MapEntry} {clk clk' : Nat} (h : w.heap[b]? = some (.map ents clk)) : (setObj b (.map ents' clk')).run P w = .ok () { w with heap := w.heap.setIfInBounds b (.map ents' clk') } := by
  simp only [setObj, Sem.run, h]
theorem s_lookup {t : TypeId} {x key : Operand} {ok : Bool} (h : (if mapOk P t then (match opnd fr x, opnd fr key, ok with
      | .mapr h, .str s, false => (match fr.obj h with
        | .map es => k (fr.finish o.dst (.bool (mapGet es s)))
        | _ => none)
      | _, _, _ => none) else none) = some r) (ho : o.op = .lookup t x key ok) (S : Sim fr g a.tmps w) : o.upon P a (Good r k g w a) Q ((execOp a.eval o).run P w) := by
  have hx := opnd_rv S x
  have hy := opnd_rv S key
  split at h
  case isFalse => simp at h
  rename_i hm
  obtain ⟨kt, et, i, hu, hs, hi, hz⟩ := mapOk_some hm
  split at h
  case h_2 => simp at h
  rename_i hd s ex ey
  rw [ex] at hx; rw [ey] at hy
  have hy := rv_str hy
  split at h
  case h_2 => simp at h
  rename_i es ec
  obtain ⟨b, ents, clk, e, hh, hn, hkeys, hget⟩ := obj_of S.o ec (by simp)
  have hx := rv_mapr hx e
  refine up_value (v := .bool (mapGet es s)) ?_ h S (.sv (.bool _)) (Fm.refl _ _)
  have hg := hget s
  unfold execOp; rw [ho]; generalize a.eval = ρ at *
  rcases findNow_str s ents.toList 0 hkeys with ⟨h1, h2⟩ | ⟨j, en, _, h1, h2, _⟩
  · rw [h2] at hg
    simp at hg
    simp [hx, hy, Instr.lookup, run_und hu, run_get hh, run_checkKey hs, Instr.findKey, run_und hs, h1, zeroValue, run_info hi, hz, hg]
  · rw [h2] at hg
    simp at hg
    simp [hx, hy, Instr.lookup, run_und hu, run_get hh, run_checkKey hs, Instr.findKey, run_und hs, h1, hg]
theorem s_mapUpdate {t : TypeId} {m key x : Operand} (ho : o.op = .mapUpdate t m key x) (h : (if mapOk P t then (match opnd fr m, opnd fr key, opnd fr x with
      | .mapr h, .str s, .bool b => (match fr.obj h with
        | .map es => k ((fr.setObj h (.map (mapSet es s b))).finish o.dst .undef)
        | _ => none)
      | _, _, _ => none) else none) = some r) (S : Sim fr g a.tmps w) : o.upon P a (Good r k g w a) Q ((execOp a.eval o).run P w) := by
  have hm' := opnd_rv S m
  have hy := opnd_rv S key
  have hx := opnd_rv S x
  split at h
  case isFalse => simp at h
  rename_i hm
  obtain ⟨kt, et, i, hu, hs, hi, hz⟩ := mapOk_some hm
  split at h
  case h_2 => simp at h
  rename_i hd s b em ey ex
  rw [em] at hm'; rw [ey] at hy; rw [ex] at hx
  have hy := rv_str hy
  have hx := rv_bool hx
  split at h
  case h_2 => simp at h
  rename_i es ec
  obtain ⟨blk, ents, clk, e, hh, hn, hkeys, hget⟩ := obj_of S.o ec (by simp)
  have hm' := rv_mapr hm' e
  have hblk : blk < w.heap.size := S.o.lt hd blk (by rw [e]; rfl)
  have fin : ∀ (ents' : Array MapEntry) (clk' : Nat), (execOp a.eval o).run P w = .ok .skip { w with heap := w.heap.setIfInBounds blk (.map ents' clk') } → MapR ents' (mapSet es s b) →
      o.upon P a (Good r k g w a) Q ((execOp a.eval o).run P w) := by
    intro ents' clk' hrun hmr
    obtain ⟨S', F, L⟩ := obj_upd (w' := { w with heap := w.heap.setIfInBounds blk (.map ents' clk') }) S hd (.map (mapSet es s b)) (g.rho hd) (by rw [e]; simp) (.inr rfl) (.inl ⟨⟨blk, e⟩, rfl⟩)
      (fun b' hb hne => by
        have : blk ≠ b' := fun eb => hne (by rw [e, eb]; rfl)
        simp [this]) (fun b' e' => by rw [e] at e'; cases e'; exact hn) (by simp) (fun b' e' => .inl e') rfl rfl rfl
      (fun g' eg L => by
        rw [setR_same rfl] at eg
        subst eg
        exact ⟨blk, ents', clk', e, by simp [hblk], hn, hmr⟩)
    rw [setR_same rfl] at S' F
    exact up_skip (m := .undef) hrun h S' F
  have hrun0 : ∀ (ents' : Array MapEntry) (clk' : Nat), (Instr.mapUpdate t (a.eval m) (a.eval key) (a.eval x)).run P w = .ok () { w with heap := w.heap.setIfInBounds blk (.map ents' clk') } → (execOp a.eval o).run P w = .ok .skip { w with heap := w.heap.setIfInBounds blk (.map ents' clk') } := by
    intro ents' clk' hr
    unfold execOp; rw [ho]; generalize a.eval = ρ at *
    simp [hr]
  rcases findNow_str s ents.toList 0 hkeys with ⟨h1, h2⟩ | ⟨j, en, hj, h1, h2, hkey, hbefore⟩
  · refine fin (ents.push { key := .string s, val := .bool b, born := clk }) (clk + 1) (hrun0 _ _ ?_) ⟨fun e' he' => ?_, fun s' => ?_⟩
    · rw [hm', hy, hx]
      simp [Instr.mapUpdate, run_und hu, run_get hh, run_checkKey hs, Instr.findKey, run_und hs, h1, run_set hh]
    · simp only [Array.toList_push, List.mem_append, List.mem_singleton] at he'
      rcases he' with he' | he'
      · exact hkeys e' he'
      · subst he'; exact ⟨s, b, rfl, rfl⟩
    · have hg := hget s'
      rw [Array.toList_push, List.find?_append, mapGet_set]
      cases hc : (s.toList == s'.toList) with
      | true =>
        have : s = s' := ba_inj (by simpa using hc)
        subst this
        rw [h2]
        simp [List.find?_cons, kp]
      | false =>
        have hk : kp s' { key := .string s, val := .bool b, born := clk } = false := by rw [kp_key rfl]; exact hc
        simp only [List.find?_cons, hk, List.find?_nil, Option.or_none]
        exact hg
  · refine fin (ents.modify j fun e => { e with key := .string s, val := .bool b }) clk (hrun0 _ _ ?_) ⟨fun e' he' => ?_, fun s' => ?_⟩
    · have hj' : ents[j]? = some en := by simpa using hj
      have hb : Instr.sameBits 10000 (.string s) (.string s) = true := by
        show (s == s) = true
        rw [ba_beq]; simp
      rw [hm', hy, hx]
      simp [Instr.mapUpdate, run_und hu, run_get hh, run_checkKey hs, Instr.findKey, run_und hs, h1, hj', hkey, Instr.keyThatStays, hb, run_set hh]
    · rw [Array.toList_modify] at he'
      obtain ⟨q, hq, e1⟩ := List.mem_iff_getElem.1 he'
      have e2 : (ents.toList.modify j fun e => { e with key := .string s, val := .bool b })[q]? = some e' := by rw [List.getElem?_eq_getElem hq, e1]
      rw [List.getElem?_modify] at e2
      obtain ⟨e3, h3, h4⟩ := Option.map_eq_some_iff.1 e2
      split at h4
      · subst h4; exact ⟨s, b, rfl, rfl⟩
      · subst h4; exact hkeys _ (List.mem_of_getElem? h3)
    · have hg := hget s'
      rw [Array.toList_modify, find_modify hj hkey rfl hbefore, mapGet_set]
      cases hc : (s.toList == s'.toList) with
      | true => simp
      | false => simpa using hg
end
end Kw
namespace Kw
set_option linter.unusedVariables false
set_option linter.unusedSimpArgs false
set_option linter.unusedSectionVars false
open Go
variable [Gl]
section
variable {R : Type} {r : R} {k : Fr → Option R} {fr : Fr} {g : G} {a : Act} {w : World} {o : Oper} {Q : Exit → Act → World → Prop}
/-- what is asked of an operation -/
def Ask (E : Env) (run : Run) (o : Oper) (Q : Exit → Act → World → Prop) : Prop :=
  ∀ {R : Type} {r : R} {k : Fr → Option R} {fr : Fr} {g : G} {a : Act} {w : World}, evOp E run o fr k = some r → Sim fr g a.tmps w → o.upon E.P a (Good r k g w a) Q ((execOp a.eval o).run E.P w)
theorem evOp_ok {E : Env} {run : Run}
    (hcall : ∀ c f, o.op = .call c → c.callee = .value f → Ask E run o Q)
    (heq : ∀ op t x y yt, o.op = .binOp op t x y yt → isAgg E.P t = true → Ask E run o Q) : Ask E run o Q := by
  intro R r k fr g a w h S
  have h0 := h
  unfold evOp at h
  simp only at h
  split at h
  · rename_i x ho; exact s_move (.inl ho) h S
  · rename_i x ho; exact s_move (.inr ho) h S
  · rename_i c x y ho; exact s_pick ho h S
  · rename_i t ho; exact s_alloc ho h S
  · rename_i t x ho; exact s_box ho h S
  · rename_i t x ho; exact s_load rfl ho h S
  · rename_i t x y ho; exact s_store rfl ho h S
  · rename_i x ho; exact s_nilCheck ho h S
  · rename_i op t x y yt ho
    split at h
    · rename_i hag; exact heq _ _ _ _ _ ho hag h0 S
    · split at h
      · rename_i ex
        split at h
        · rename_i hi
          simp only [Bool.and_eq_true] at hi
          exact s_ifeq h ho ex hi.1 hi.2 S
        · simp at h
      · exact s_bin ho h S
  · rename_i op t x ho; exact s_un h ho S
  · rename_i src dst x ho; exact s_convert ho h S
  · rename_i f first caps ho
    split at h
    · rename_i gf
      split at h
      · rename_i hf; exact s_makeFunc ho hf h S
      · simp at h
    · simp at h
  · rename_i t ho; exact s_makeMap ho h S
  · rename_i t l c ho; exact s_makeSlice ho h S
  · rename_i t n parts ho; exact s_buildSlice ho h S
  · rename_i t parts ho; exact s_build ho h S
  · rename_i t x lo hi mx ho; exact s_slice h ho S
  · rename_i t x f ho; exact s_fieldAddr ho h S
  · rename_i t x f ho; exact s_field ho h S
  · rename_i t x i ho; exact s_indexAddr ho h S
  · rename_i t x i ho
    split at h
    · rename_i hs; exact s_index ho h (by unfold isStringT at hs; split at hs <;> simp_all) S
    · simp at h
  · rename_i x j ho; exact s_extract ho h S
  · rename_i t x key ok ho; exact s_lookup h ho S
  · rename_i t m key x ho; exact s_mapUpdate ho h S
  · rename_i c ho
    split at h
    · rename_i hc; exact s_len ho hc h S
    · rename_i hc; exact s_max ho hc h S
    · rename_i hc; exact s_min ho hc h S
    · rename_i hc; exact s_append rfl ho hc h S
    · rename_i f hc; exact hcall _ _ ho hc h0 S
    · simp at h
  · simp at h
end
end Kw
namespace Kw
set_option linter.unusedVariables false
set_option linter.unusedSimpArgs false
set_option linter.unusedSectionVars false
open Go
variable [Gl]
section
variable {R : Type} {r : R} {g : G} {w : World} {Q : Exit → Act → World → Prop}
theorem sim_guard {fr : Fr} {tmps : Array Value} (S : Sim fr g tmps w) {d : Nat} {b : Bool} (h : fr.get d = .bool b) : tmps[d]? = some (.bool b) := by
  have hlt : d < fr.sl.length := by
    rcases Nat.lt_or_ge d fr.sl.length with h' | h'
    · exact h'
    · unfold Fr.get at h
      rw [List.getD_eq_getElem?_getD, List.getElem?_eq_none h'] at h
      simp at h
  have h1 : fr.sl[d]? = some (.bool b) := by
    unfold Fr.get at h
    rw [List.getD_eq_getElem?_getD, List.getElem?_eq_getElem hlt] at h
    rw [List.getElem?_eq_getElem hlt]; simpa using h
  have h2 : tmps[d]? = some (tmps[d]'(by rw [S.size]; exact hlt)) := Array.getElem?_eq_getElem _
  rw [h2]
  congr 1
  exact rv_bool (S.slot d _ _ h2 h1)
theorem rv_skip {g : G} {cu : H → Int} {w : World} : RV g cu w undef (.tup []) := .tup rfl (fun j v m h _ => by simp at h)
theorem skipped_tup {m : MV} (h : skipped m = true) : m = .tup [] := by
  unfold skipped at h
  split at h
  · rfl
  · cases h
theorem sim_skip {fr : Fr} {tmps : Array Value} (S : Sim fr g tmps w) {d : Nat} (h0 : skipped (fr.get d) = true) : tmps[d]? = some undef := by
  have h := skipped_tup h0
  have hlt : d < fr.sl.length := by
    rcases Nat.lt_or_ge d fr.sl.length with h' | h'
    · exact h'
    · unfold Fr.get at h
      rw [List.getD_eq_getElem?_getD, List.getElem?_eq_none h'] at h
      simp at h
  have h1 : fr.sl[d]? = some (.tup []) := by
    unfold Fr.get at h
    rw [List.getD_eq_getElem?_getD, List.getElem?_eq_getElem hlt] at h
    rw [List.getElem?_eq_getElem hlt]; simpa using h
  have h2 : tmps[d]? = some (tmps[d]'(by rw [S.size]; exact hlt)) := Array.getElem?_eq_getElem _
  rw [h2]
  congr 1
  have := S.slot d _ _ h2 h1
  generalize tmps[d]'_ = v at this ⊢
  cases this with
  | sv h => cases h
  | tup hl hr => 
    rename_i vs
    have : vs = #[] := Array.eq_empty_of_size_eq_zero hl
    rw [this]; rfl
theorem sim_same {fr : Fr} {tmps : Array Value} (S : Sim fr g tmps w) {d : Nat} {v : Value} {m : MV} (ht : tmps[d]? = some v) (h : RV g (cur fr.ob) w v m) : Sim (fr.set d m) g tmps w := by
  have := S.set d h
  have e : tmps.setIfInBounds d v = tmps := by
    apply Array.ext
    · simp
    · intro j h1 h2
      rw [Array.getElem_setIfInBounds (by simpa using h1)]
      split
      · rename_i ej; subst ej
        rw [Array.getElem?_eq_getElem h2] at ht
        exact (Option.some.inj ht).symm
      · rfl
  rwa [e] at this
/-- the operations of a region, one behind the other -/
theorem evOps_ok {E : Env} {run : Run} {all : Array Oper} {k : Fr → Option R} (hask : ∀ (i : Nat) (o : Oper), all[i]? = some o → Ask E run o Q) : ∀ (n : Nat) (i : Nat) {fr : Fr} {g : G} {a : Act} {w : World}, i + n = all.size →
    evOps E run all (all.toList.drop i) fr k = some r → Sim fr g a.tmps w →
    (∀ a' w', Good r k g w a a' w' → Q .normal a' w') → wpOps E.P all Q (List.range' i n) a w
  | 0, i, fr, g, a, w, hi, h, S, hQ => by
    have : all.toList.drop i = [] := List.drop_eq_nil_of_le (by simp; omega)
    rw [this] at h
    exact hQ a w ⟨rfl, fr, g, h, S, Fm.refl _ _⟩
  | n + 1, i, fr, g, a, w, hi, h, S, hQ => by
    have hlt : i < all.toList.length := by simp; omega
    have hd : all.toList.drop i = all[i]'(by omega) :: all.toList.drop (i + 1) := by
      rw [List.drop_eq_getElem_cons hlt]; simp
    have ho : all[i]? = some (all[i]'(by omega)) := Array.getElem?_eq_getElem _
    generalize all[i]'(by omega) = o at hd ho
    rw [hd] at h
    rw [List.range'_succ]
    simp only [wpOps, ho]
    unfold evOps at h
    have go : ∀ fr1, Sim fr1 g a.tmps w → evOp E run o fr1 (fun fr => evOps E run all (all.toList.drop (i + 1)) fr k) = some r → o.wp E.P a w (wpOps E.P all Q (List.range' (i + 1) n)) Q := by
      intro fr1 S1 h1
      refine Oper.wp_mono (fun a' w' hg => ?_) (hask i o ho h1 S1)
      obtain ⟨hdf, fr', g', hk, S', F⟩ := hg
      exact evOps_ok hask n (i + 1) (by omega) hk S' (fun a'' w'' ⟨hd', fr'', g'', hk', S'', F'⟩ => hQ a'' w'' ⟨hd'.trans hdf, fr'', g'', hk', S'', F.trans F'⟩)
    split at h
    · rename_i hg
      have : Region.wanted o (yielded all a.tmps) = true := by unfold Region.wanted; rw [hg]
      rw [if_pos this]
      exact .inl (go fr S h)
    · rename_i j want hg
      split at h
      · rename_i d hdst
        split at h
        · rename_i hsk
          have ht := sim_skip S hsk
          have hy : yielded all a.tmps j = none := by unfold yielded; rw [hdst]; simp [ht, undef]
          have hw : Region.wanted o (yielded all a.tmps) = false := by unfold Region.wanted; rw [hg]; simp only [hy]; rfl
          rw [hw, if_neg (by simp)]
          have hput : Good r (fun fr => evOps E run all (all.toList.drop (i + 1)) fr k) g w a (a.put o.dst undef) w := good_fin (m := .tup []) h S rv_skip (Fm.refl _ _)
          obtain ⟨hdf, fr', g', hk, S', F⟩ := hput
          exact evOps_ok hask n (i + 1) (by omega) hk S' (fun a'' w'' ⟨hd', fr'', g'', hk', S'', F'⟩ => hQ a'' w'' ⟨hd'.trans hdf, fr'', g'', hk', S'', F.trans F'⟩)
        obtain ⟨b, hb, h⟩ := bnd_some h
        have hb := gBool_some hb
        have ht := sim_guard S hb
        have hy : yielded all a.tmps j = some b := by unfold yielded; rw [hdst]; simp [ht]
        have hw : Region.wanted o (yielded all a.tmps) = (some b == some want) := by unfold Region.wanted; rw [hg]; simp only [hy]
        rcases br_some h with ⟨hc, hh⟩ | ⟨hc, hh⟩
        · have : b = want := by cases want <;> cases b <;> simp_all [bNot]
          subst this
          rw [hw, if_pos (by simp)]
          exact .inl (go _ (sim_same S ht (.sv (.bool _))) hh)
        · have : b = !want := by cases want <;> cases b <;> simp_all [bNot]
          subst this
          rw [hw, if_neg (by cases want <;> simp)]
          have S1 := sim_same S ht (.sv (.bool (!want)))
          have hput : Good r (fun fr => evOps E run all (all.toList.drop (i + 1)) fr k) g w a (a.put o.dst undef) w := good_fin (m := .tup []) hh S1 rv_skip (Fm.refl _ _)
          obtain ⟨hdf, fr', g', hk, S', F⟩ := hput
          exact evOps_ok hask n (i + 1) (by omega) hk S' (fun a'' w'' ⟨hd', fr'', g'', hk', S'', F'⟩ => hQ a'' w'' ⟨hd'.trans hdf, fr'', g'', hk', S'', F.trans F'⟩)
      · simp at h
end
end Kw
namespace Kw
set_option linter.unusedVariables false
set_option linter.unusedSimpArgs false
set_option linter.unusedSectionVars false
open Go
variable [Gl]
def exOf : Ex → Exit
  | .normal => .normal
  | .ret => .ret
  | .exit id => .exit id
section
variable {R : Type} {r : R}
def GoodC (r : R) (k : Ex → Fr → Option R) (g : G) (w : World) (ds : List Deferred) (e : Exit) (a' : Act) (w' : World) : Prop :=
  ∃ ex, e = exOf ex ∧ a'.defers = ds ∧ ∃ fr' g', k ex fr' = some r ∧ Sim fr' g' a'.tmps w' ∧ Fm g w g' w'
theorem GoodC.trans {k : Ex → Fr → Option R} {g g1 : G} {w w1 : World} {ds : List Deferred} {e : Exit} {a' : Act} {w' : World} (h : GoodC r k g1 w1 ds e a' w') (F : Fm g w g1 w1) : GoodC r k g w ds e a' w' := by
  obtain ⟨ex, he, hd, fr', g', hk, S, F'⟩ := h
  exact ⟨ex, he, hd, fr', g', hk, S, F.trans F'⟩
/-- a region is sound -/
def RegOk (E : Env) (run : Run) (id : Nat) (ops : Array Oper) (draw : Bool) : Prop :=
  ∀ {R : Type} {r : R} {k : Ex → Fr → Option R} {fr : Fr} {g : G} {a : Act} {w : World}, (if draw then evOpsD E run ops ops.toList [] (fr.kill (layers ops.toList)) (fun fr => k .normal fr) else evOps E run ops ops.toList (fr.kill (layers ops.toList)) (fun fr => k .normal fr)) = some r → Sim fr g a.tmps w →
    (Code.region id ops draw).wp E.P (GoodC r k g w a.defers) a w
def AllReg (p : Nat → Array Oper → Bool → Prop) : Code → Prop
  | .region id ops d => p id ops d
  | .seq a b => AllReg p a ∧ AllReg p b
  | .cond _ a b => AllReg p a ∧ AllReg p b
  | .block _ c => AllReg p c
  | .loop c => AllReg p c
  | _ => True
theorem evCode_ok {E : Env} {run : Run} {L : Nat} {f : FuncId} (hhead : ∀ (fr : Fr) (an : Ann) (g : G) (tmps : Array Value) (w : World), Sim fr g tmps w → ∃ g', Sim (fr.head an) g' tmps w ∧ Fm g w g' w) :
    ∀ (c : Code), AllReg (RegOk E run) c → ∀ {R : Type} {r : R} {k : Ex → Fr → Option R} {fr : Fr} {g : G} {a : Act} {w : World}, evCode E run L f c fr k = some r → Sim fr g a.tmps w → c.wp E.P (GoodC r k g w a.defers) a w
  | .skip, _, R, r, k, fr, g, a, w, h, S => wp_skip ⟨.normal, rfl, rfl, fr, g, h, S, Fm.refl _ _⟩
  | .region id ops d, hr, R, r, k, fr, g, a, w, h, S => hr h S
  | .seq x y, hr, R, r, k, fr, g, a, w, h, S => by
    refine wp_seq (wp_mono (evCode_ok hhead x hr.1 (by exact h) S) ?_)
    rintro e a' w' ⟨ex, he, hd, fr', g', hk, S', F⟩
    subst he
    cases ex with
    | normal =>
      simp only at hk
      split at hk
      · rename_i an _
        obtain ⟨g2, S2, F2⟩ := hhead _ an _ _ _ S'
        refine wp_mono (evCode_ok hhead y hr.2 (by exact hk) S2) (fun e a'' w'' hg => ?_)
        rw [hd] at hg
        exact hg.trans (F.trans F2)
      · refine wp_mono (evCode_ok hhead y hr.2 hk S') (fun e a'' w'' hg => ?_)
        rw [hd] at hg
        exact hg.trans F
    | ret => exact ⟨.ret, rfl, hd, fr', g', hk, S', F⟩
    | exit id => exact ⟨.exit id, rfl, hd, fr', g', hk, S', F⟩
  | .cond c x y, hr, R, r, k, fr, g, a, w, h, S => by
    unfold evCode at h
    obtain ⟨b, hb, h⟩ := bnd_some h
    have hc := opnd_rv S c
    rw [gBool_some hb] at hc
    have hc := rv_bool hc
    rcases br_some h with ⟨e, h⟩ | ⟨e, h⟩
    · subst e; exact wp_cond_true hc (evCode_ok hhead x hr.1 h S)
    · subst e; exact wp_cond_false hc (evCode_ok hhead y hr.2 h S)
  | .block id c, hr, R, r, k, fr, g, a, w, h, S => by
    refine wp_block (wp_mono (evCode_ok hhead c hr (by exact h) S) ?_)
    rintro e a' w' ⟨ex, he, hd, fr', g', hk, S', F⟩
    subst he
    cases ex with
    | normal => exact ⟨.normal, rfl, hd, fr', g', hk, S', F⟩
    | ret => exact ⟨.ret, rfl, hd, fr', g', hk, S', F⟩
    | exit i =>
      simp only at hk
      show Exit.inBlock id _ (.exit i) a' w'
      unfold Exit.inBlock
      by_cases e : i = id
      · rw [if_pos e] at hk
        subst e
        simp only [if_true]
        exact ⟨.normal, rfl, hd, fr', g', hk, S', F⟩
      · rw [if_neg e] at hk
        simp only [e, if_false]
        exact ⟨.exit i, rfl, hd, fr', g', hk, S', F⟩
  | .loop c, hr, R, r, k, fr, g, a, w, h, S => by
    unfold evCode at h
    obtain ⟨g0, S0, F0⟩ := hhead _ (E.ann f (firstReg c)) _ _ _ S
    refine wp_loop_ghost (fun n a' w' => a'.defers = a.defers ∧ ∃ fr' g', loopN f (firstReg c) n (evCode E run L f c) (fun fr => fr.head (E.ann f (firstReg c))) fr' k = some r ∧ Sim fr' g' a'.tmps w' ∧ Fm g w g' w') L
      ⟨rfl, _, g0, h, S0, F0⟩ ?_
    rintro n a1 w1 ⟨hd1, fr1, g1, h1, S1, F1⟩
    cases n with
    | zero => simp [loopN] at h1
    | succ n =>
      unfold loopN at h1
      refine wp_mono (evCode_ok hhead c hr h1 S1) ?_
      rintro e a' w' ⟨ex, he, hd, fr', g', hk, S', F⟩
      subst he
      cases ex with
      | normal =>
        obtain ⟨g2, S2, F2⟩ := hhead _ (E.ann f (firstReg c)) _ _ _ S'
        exact ⟨n, Nat.lt_succ_self n, hd.trans hd1, _, g2, hk, S2, (F1.trans F).trans F2⟩
      | ret => exact ⟨.ret, rfl, hd.trans hd1, fr', g', hk, S', F1.trans F⟩
      | exit id => exact ⟨.exit id, rfl, hd.trans hd1, fr', g', hk, S', F1.trans F⟩
  | .exit id, _, R, r, k, fr, g, a, w, h, S => wp_exit ⟨.exit id, rfl, rfl, fr, g, h, S, Fm.refl _ _⟩
  | .ret, _, R, r, k, fr, g, a, w, h, S => wp_ret ⟨.ret, rfl, rfl, fr, g, h, S, Fm.refl _ _⟩
  | .label _, _, R, r, k, fr, g, a, w, h, S => by simp [evCode] at h
  | .goto _, _, R, r, k, fr, g, a, w, h, S => by simp [evCode] at h
end
end Kw
