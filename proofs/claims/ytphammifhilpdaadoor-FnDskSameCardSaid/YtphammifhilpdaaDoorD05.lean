import Derived.Test.YtphammifhilpdaaDoorD04
import Derived.Laws.StructEq
namespace Kw
set_option linter.unusedVariables false
set_option linter.unusedSimpArgs false
set_option linter.unusedSectionVars false
open Go
variable [Gl]
section
variable {R : Type} {r : R} {w : World} {g : G} {tmps : Array Value} {fr : Fr} {cu : H → Int}
def resF (tmps : Array Value) : ResultVar → Sem Value
  | .tmp t => pure (tmps.getD t undef)
  | .cell a t => do loadVar t (← asAddr (tmps.getD a undef))
theorem results_eq (fn : Func) (tmps : Array Value) : results fn tmps = (do
    let vs ← fn.results.mapM (resF tmps)
    pure (if h : vs.size = 1 then vs[0] else .tuple vs)) := rfl
theorem resL_ok {E : Env} (S : Sim fr g tmps w) : ∀ (rs : List ResultVar) {k : List MV → Option R}, resL E fr rs k = some r →
    ∃ ms vs, k ms = some r ∧ Rl (RV g (cur fr.ob) w) vs ms ∧ (rs.mapM (resF tmps)).run E.P w = .ok vs w
  | [], k, h => ⟨[], [], h, .nil, by simp⟩
  | .tmp t :: rs, k, h => by
    simp only [resL] at h
    obtain ⟨ms, vs, hk, hr, hm⟩ := resL_ok S rs h
    have ho := opnd_rv (a := ⟨tmps, []⟩) S (.tmp t)
    refine ⟨_, (tmps.getD t undef) :: vs, hk, .cons ho hr, ?_⟩
    simp [List.mapM_cons, resF, hm]
  | .cell t ty :: rs, k, h => by
    simp only [resL] at h
    split at h
    case isFalse => simp at h
    rename_i hk
    split at h
    · rename_i hd off ex
      split at h
      · rename_i cs ec
        split at h
        · rename_i hle
          obtain ⟨ms, vs, hkk, hr, hm⟩ := resL_ok S rs h
          have hx : RV g (cur fr.ob) w (tmps.getD t undef) (.ptr hd off) := by
            have := opnd_rv (a := ⟨tmps, []⟩) S (.tmp t)
            simp only [opnd, ex] at this
            exact this
          obtain ⟨b, arr, ty', e, hh, hn, hs, hv⟩ := obj_of S.o ec (by simp)
          have ep := rv_ptr hx e
          obtain ⟨⟨d, hu⟩, h1, _⟩ := okT_iff hk
          have hcell : ∀ j, j < tsize E.P ty → w.cell? ⟨b, off + j, none⟩ = some (arr.getD (off + j) undef) := by
            intro j hj
            rw [cell_cells hh, Array.getD_eq_getD_getElem?, Array.getElem?_eq_getElem (by omega)]; simp
          have hlv := run_var hu _ hcell (fun e => by rw [h1 e]; exact Nat.one_pos)
          refine ⟨_, _ :: vs, hkk, .cons (rv_pack hk (by simp; omega) (fun j => arr.getD (off + j) undef) (fun j m hj => ?_)) hr, ?_⟩
          · have hj' : j < tsize E.P ty := by
              have := (List.getElem?_eq_some_iff.1 hj).1
              simp at this; omega
            rw [List.getElem?_take_of_lt hj', List.getElem?_drop] at hj
            exact hv (off + j) _ m (by rw [Array.getD_eq_getD_getElem?, Array.getElem?_eq_getElem (by omega)]; simp) hj
          · simp [List.mapM_cons, resF, ep, asAddr, hlv, hm]
        · simp at h
      · simp at h
    · simp at h
theorem bvs_of_rl {vs : List Value} {ms : List MV} (h : Rl (RV g cu w) vs ms) : BVs g cu w vs ms [] := by
  induction h with
  | nil => exact .nil
  | cons h _ ih => exact .cons (.one (.rv h)) ih
theorem resR_one {v : Value} {m : MV} {f : List Nat} (h : BV g cu w v m f) : ResR g cu w v m f := by
  by_cases hm : ∃ ms, m = .tup ms
  · obtain ⟨ms, e⟩ := hm
    subst e
    cases h with
    | one h =>
      cases h with
      | rv h =>
        obtain ⟨vs, ev, hl, hr⟩ := rv_tup h
        subst ev
        refine .tup ?_
        exact bvs_of_rl (rl_of (Rr := RV g cu w) vs.toList ms (by simpa using hl) fun j v m h1 h2 => hr j v m (by simpa using h1) h2)
  · exact .one h fun ms e => hm ⟨ms, e⟩
theorem mkRes_ok {vs : List Value} {ms : List MV} {f : List Nat} (h : BVs g cu w vs ms f) : ResR g cu w (if h : vs.toArray.size = 1 then vs.toArray[0] else .tuple vs.toArray) (mkRes ms) f := by
  cases h with
  | nil => exact .tup .nil
  | @cons v m f1 vs ms fs h t =>
    cases t with
    | nil =>
      have : f1 ++ [] = f1 := by simp
      rw [this]
      exact resR_one h
    | @cons v' m' f2 vs ms fs h' t =>
      exact .tup (.cons h (.cons h' t))
theorem newBox_loc (ms : List MV) : newBox ms = [] ∨ ∃ t j, newBox ms = [.loc t j] := by
  unfold newBox
  split
  · exact .inr ⟨_, _, rfl⟩
  · exact .inr ⟨_, _, rfl⟩
  · exact .inl rfl
theorem hs_get {n j : Nat} {l : List H} (hj : j < n) : ((List.range n).map H.imp ++ l)[j]? = some (.imp j) := by
  rw [List.getElem?_append_left (by simpa using hj), List.getElem?_map, List.getElem?_range hj]; rfl
theorem hs_nodup (n : Nat) (ms : List MV) : ((List.range n).map H.imp ++ newBox ms).Nodup := by
  rw [List.nodup_append]
  refine ⟨?_, ?_, ?_⟩
  · exact List.Pairwise.map _ (fun a b (hne : a ≠ b) e => hne (by injection e)) List.nodup_range
  · rcases newBox_loc ms with e | ⟨t, j, e⟩ <;> rw [e] <;> simp
  · intro a ha b hb e
    subst e
    obtain ⟨i, _, e⟩ := List.mem_map.1 ha
    rcases newBox_loc ms with e' | ⟨t, j, e'⟩ <;> rw [e'] at hb <;> simp at hb
    rw [hb] at e; cases e
theorem blks_nodup : ∀ {gs : List GH}, (∀ (i j : Nat) (x y : GH) (b : Nat), i < j → gs[i]? = some x → gs[j]? = some y → x.blk = some b → y.blk ≠ some b) → (blks gs).Nodup
  | [], _ => .nil
  | x :: gs, h => by
    have ih := blks_nodup (gs := gs) fun i j x y b hij h1 h2 => h (i + 1) (j + 1) x y b (by omega) (by simpa using h1) (by simpa using h2)
    unfold blks at ih ⊢
    cases e : x.blk with
    | none => rw [List.filterMap_cons_none e]; exact ih
    | some b =>
      rw [List.filterMap_cons_some e, List.nodup_cons]
      refine ⟨fun hm => ?_, ih⟩
      obtain ⟨y, hy, ey⟩ := List.mem_filterMap.1 hm
      obtain ⟨j, hj, ej⟩ := List.mem_iff_getElem.1 hy
      exact h 0 (j + 1) x y b (by omega) rfl (by simp [List.getElem?_eq_getElem hj, ej]) e ey
theorem cur_box {ob : Ob} (S : SimO ob g w) {h : H} {b : Nat} (e : g.rho h = .box b) : cur ob h = -1 := by
  by_cases hm : h ∈ ob.map (·.1)
  · have := S.obj _ _ (mem_of_look hm)
    unfold cur
    cases ho : look ob h with
    | rows rs => rw [ho] at this; rcases this with ⟨e', _⟩ | ⟨_, _, _, _, _, e', _⟩ <;> (rw [e] at e'; cases e')
    | froz rs => rw [ho] at this; rcases this with ⟨e', _⟩ | ⟨_, _, _, _, _, e', _⟩ <;> (rw [e] at e'; cases e')
    | _ => rfl
  · unfold cur; rw [look_none hm]
/-- what is given, apart -/
theorem give_sep {fr2 : Fr} {g2 : G} {f : List Nat} {gs : List GH} {hs : List H} (S : Sim fr g tmps w) (G12 : Gv fr fr2 g g2 f tmps w) (hnd : hs.Nodup) (hl : gs.length = hs.length) (hbx : ∀ (j : Nat) (h : H) (b : GH), hs[j]? = some h → gs[j]? = some b → g2.rho h = b) :
    (f ++ blks gs).Nodup ∧ (∀ b ∈ f ++ blks gs, ∃ h, (g.rho h).blk = some b) ∧ (∀ b ∈ f ++ blks gs, b < w.heap.size) ∧ ∀ b ∈ blks gs, ∃ h, (g2.rho h).blk = some b := by
  have hat : ∀ (i : Nat) (x : GH), gs[i]? = some x → ∃ h, hs[i]? = some h ∧ g2.rho h = x := fun i x e => by
    have hi' : i < hs.length := by rw [← hl]; exact (List.getElem?_eq_some_iff.1 e).1
    exact ⟨_, List.getElem?_eq_getElem hi', hbx i _ x (List.getElem?_eq_getElem hi') e⟩
  have hbs1 : ∀ b ∈ blks gs, ∃ h, (g2.rho h).blk = some b := fun b hb => by
    obtain ⟨x, hx, e⟩ := mem_blks.1 hb
    obtain ⟨i, hi, ei⟩ := List.mem_iff_getElem.1 hx
    obtain ⟨h, _, e2⟩ := hat i x (by rw [List.getElem?_eq_getElem hi, ei])
    exact ⟨h, by rw [e2]; exact e⟩
  have hndb : (blks gs).Nodup := blks_nodup fun i j x y b hij h1 h2 e1 e2 => by
    obtain ⟨h, k1, q1⟩ := hat i x h1
    obtain ⟨h', k2, q2⟩ := hat j y h2
    have := G12.sim.o.inj h h' b (by rw [q1]; exact e1) (by rw [q2]; exact e2)
    obtain ⟨l1, m1⟩ := List.getElem?_eq_some_iff.1 k1
    obtain ⟨l2, m2⟩ := List.getElem?_eq_some_iff.1 k2
    exact List.pairwise_iff_getElem.1 hnd i j l1 l2 hij (by rw [m1, m2]; exact this)
  have hfg : ∀ b, b ∈ f ++ blks gs → ∃ h, (g.rho h).blk = some b := fun b hb => by
    rcases List.mem_append.1 hb with x | x
    · obtain ⟨⟨h, e, _⟩, _⟩ := G12.own b x; exact ⟨h, e⟩
    · obtain ⟨h, e⟩ := hbs1 b x; exact ⟨h, G12.blk h b e⟩
  refine ⟨List.nodup_append.2 ⟨G12.nod, hndb, fun a ha b hb e => ?_⟩, hfg, fun b hb => ?_, hbs1⟩
  · subst e
    obtain ⟨h, e⟩ := hbs1 a hb
    exact (G12.own a ha).2.1 h e
  · obtain ⟨h, e⟩ := hfg b hb; exact S.o.lt h b e
/-- how long they are, across the border -/
theorem give_cu {fr2 : Fr} {g2 : G} {f : List Nat} {gs : List GH} {hs : List H} {os : List Obj} (S : SimO fr2.ob g2 w) (B : BOs g2 (cur fr2.ob) w gs os f) (hl : gs.length = hs.length) (hbx : ∀ (j : Nat) (h : H) (b : GH), hs[j]? = some h → gs[j]? = some b → g2.rho h = b) (hrw : ∀ (j : Nat) (h : H) (x : List Row), hs[j]? = some h → os[j]? = some (.rows x) → fr2.obj h = .rows x) :
    ∀ i, (fun h' => match frI hs h' with | some h => cur fr2.ob h | none => -1) (.imp i) ≤ cuB (os.map (subO (toI hs))) (.imp i) := by
  refine out_cu hl B (fun j h x h1 h2 => ?_) fun j h h1 h2 => ?_
  · have := hrw j h x h1 h2
    unfold Fr.obj at this
    unfold cur; rw [this]
  · have hj : j < gs.length := by rw [hl]; exact (List.getElem?_eq_some_iff.1 h1).1
    have e := List.getElem?_eq_getElem hj
    rcases B.rowsAt j _ e with ⟨b, eb⟩ | ⟨rs, er⟩
    · rw [cur_box S ((hbx j h _ h1 e).trans eb)]; exact Int.le_refl _
    · exact absurd er (h2 rs)
theorem fin_ok {E : Env} {f : FuncId} {fn : Func} {n : Nat} {ex : Ex} {res : Res} {w0 : World} {g0 : G} {gs : List GH} {prot : Nat → Prop} {fa fo : List Nat} (h : fin E f fn n ex fr = some res) (S : Sim fr g tmps w) (F : Fm g0 w0 g w)
    (hb0 : ∀ h b, (g0.rho h).blk = some b → b ∈ fa ++ fo ++ blks gs) (hp0 : g0.prot = prot) (hi0 : ∀ i, g0.rho (.imp i) = (gB gs prot).rho (.imp i)) (hn : n = gs.length) :
    exOf ex ∈ [Exit.normal, Exit.ret] ∧ ∃ v, (results fn tmps).run E.P w = .ok v w ∧ Post gs prot w0 fa fo res v w := by
  have hex : exOf ex ∈ [Exit.normal, Exit.ret] ∧ (resL E fr fn.results.toList fun res => giveA (E.keep f) res fr fun res fr =>
    giveO ((List.range n).map .imp ++ newBox res) fr fun os _ => some (mkRes (res.map (subM (toI ((List.range n).map .imp ++ newBox res)))), os.map (subO (toI ((List.range n).map .imp ++ newBox res))))) = some res := by
    unfold fin at h
    cases ex with
    | exit _ => simp at h
    | normal => exact ⟨by simp [exOf], h⟩
    | ret => exact ⟨by simp [exOf], h⟩
  refine ⟨hex.1, ?_⟩
  have h := hex.2
  obtain ⟨ms, vs, h, hr, hm⟩ := resL_ok S _ h
  obtain ⟨ms1, fr1, g1, f1, h, G1, B1⟩ := giveA_ok _ h S hr
  obtain ⟨os, fr2, g2, f2, gs1, h, G2, B2, hl, hbx, hrw⟩ := giveO_ok _ h G1.sim
  have hres := Option.some.inj h
  have hnd := hs_nodup n ms1
  have G12 := G1.trans G2
  have B1' := B1.next G2 fun b hb => (G1.own b hb).2.1
  obtain ⟨hnod, hfg, _, _⟩ := give_sep S G12 hnd hl hbx
  have hcu := give_cu G2.sim.o B2 hl hbx hrw
  have htake : ∀ i, i < n → gs1[i]? = gs[i]? := fun i hi => by
    have hlt : i < gs1.length := by rw [hl]; simp; omega
    have e1 : gs1[i]? = some (gs1[i]'hlt) := List.getElem?_eq_getElem hlt
    have na := B2.ne i _ e1
    have nd := B2.nd i _ e1
    have e2 := hbx i _ _ (hs_get hi) e1
    have step : ∀ {a b : GH}, a = gs1[i]'hlt → (a = b ∨ a = .dead ∨ a = .absent) → b = gs1[i]'hlt := fun {a b} ea hx => by
      rcases hx with x | x | x
      · rw [← x]; exact ea
      · rw [ea] at x; exact absurd x nd
      · rw [ea] at x; exact absurd x na
    have e5 := step (step (step e2 (G2.imp i)) (G1.imp i)) (F.imp i)
    rw [hi0 i] at e5
    unfold gB at e5
    simp only at e5
    cases eg : gs[i]? with
    | none => rw [eg] at e5; exact absurd e5.symm na
    | some x => rw [eg] at e5; rw [e1]; exact congrArg some e5.symm
  have hpre : gs1 = gs ++ gs1.drop n := by
    have : gs1.take n = gs := by
      apply List.ext_getElem?
      intro i
      rw [List.getElem?_take]
      split
      · rename_i hi; exact htake i hi
      · rw [List.getElem?_eq_none (by omega)]
    conv => lhs; rw [← List.take_append_drop n gs1, this]
  refine ⟨if h : vs.toArray.size = 1 then vs.toArray[0] else .tuple vs.toArray, ?_, gs1.drop n, g2.prot, f1, f2, ?_⟩
  · rw [results_eq]
    simp [Array.mapM_eq_mapM_toList, hm]
  · rw [← hpre, ← hres]
    refine ⟨mkRes_ok (B1'.out hnd hl hbx hcu), B2.out hnd hl hbx hcu, hnod, fun b hb => ?_, G2.sim.o.plt, F.os, F.tape, F.output, F.size, fun b hlt hn => F.heap b hlt fun h e => hn (hb0 h b e), fun b hb => ?_, fun b hp => ?_, fun b hp => ?_⟩
    · obtain ⟨h, e⟩ := hfg b hb; exact S.o.lt h b e
    · obtain ⟨h, e⟩ := hfg b hb
      rcases F.own h b e with x | ⟨h0, x⟩
      · exact .inl x
      · exact .inr (hb0 h0 b x)
    · exact G12.later.prot b (F.prot b (by rw [hp0]; exact hp))
    · have : g.prot b ∨ ∃ h, (g.rho h).blk = some b := (G12.prot' b hp).imp id fun ⟨h, e, _⟩ => ⟨h, e⟩
      rcases this with x | ⟨h, x⟩
      · rcases F.prot' b x with y | y | ⟨h0, y⟩
        · exact .inl (by rw [← hp0]; exact y)
        · exact .inr (.inl y)
        · exact .inr (.inr (hb0 h0 b y))
      · rcases F.own h b x with y | ⟨h0, y⟩
        · exact .inr (.inl y)
        · exact .inr (.inr (hb0 h0 b y))
/-- functions with a body -/
theorem run_enter {P : Program} {f : FuncId} {fn : Func} {c : Code} (hf : P.funcs[f]? = some fn) (hname : (fn.name == "runtime.NumGoroutine") = false) (hb : fn.body = some c) (args : Array Value) (w : World) :
    (callFunc f args).run P w = .ok (.enter f args) w := by
  have h1 : fn.name ≠ "runtime.NumGoroutine" := by simpa using hname
  simp [callFunc, hf, h1, hb]
theorem ev_ok {E : Env} {L : Nat} (hname : ∀ (f : FuncId) (fn : Func), E.P.funcs[f]? = some fn → (fn.name == "runtime.NumGoroutine") = false)
    (hreg : ∀ run, RunOk E.P run → ∀ (f : FuncId) (fn : Func) (c : Code), E.P.funcs[f]? = some fn → fn.body = some c → E.okf f = true → AllReg (RegOk E run) c)
    (hext : ∀ f q, E.ext f = some q → RunOk E.P fun f' args imps => if f' = f then (q args).map fun m => (m, imps) else none) : ∀ D, RunOk E.P (ev E L D)
  | 0 => by intro h; simp [ev] at h
  | D + 1 => by
    rename_i f args imps res vals w gs prot fa fo
    intro h p
    unfold ev at h
    split at h
    · rename_i q hq
      exact hext f q hq (by simpa using h) p
    · split at h
      · simp at h
      · rename_i fn hf
        split at h
        · simp at h
        · rename_i c hc
          split at h
          case isFalse => simp at h
          rename_i hok
          obtain ⟨fr, g, h, S, hb0, hp0, hi0⟩ := start_ok h p
          unfold UponF
          rw [run_enter hf (hname f fn hf) hc]
          simp only
          refine calls_of_wp hf hc (wp_mono (evCode_ok head_sim c (hreg _ (ev_ok hname hreg hext D) f fn c hf hc hok) (R := Res) (a := ⟨_, []⟩) h S) ?_)
          rintro e a' w' ⟨ex, he, hd, fr', g', hk, S', F⟩
          subst he
          obtain ⟨hin, v, hres, hpost⟩ := fin_ok hk S' F hb0 hp0 hi0 (by have := p.os.len; omega)
          cases ex with
          | exit _ => simp [exOf] at hin
          | normal => exact ⟨hd, v, hres, v, rfl, hpost⟩
          | ret => exact ⟨hd, v, hres, v, rfl, hpost⟩
end
end Kw
namespace Kw
set_option linter.unusedVariables false
set_option linter.unusedSimpArgs false
set_option linter.unusedSectionVars false
open Go
variable [Gl]
def MV.pl : MV → Bool | .bool _ | .int _ _ | .str _ | .sl _ | .own _ | .ownK _ | .iface _ => true | _ => false
def MV.plV : MV → Bool | .agg cs => cs.all MV.pl | m => m.pl
section
variable {R : Type} {r : R} {E : Env} {own : Bool}
theorem gAggN_some {n : Nat} {m : MV} {cs : List MV} (h : gAggN n m = some cs) : m = .agg cs ∧ cs.length = n := by
  unfold gAggN at h
  split at h
  · split at h
    · rename_i hl; cases h; exact ⟨rfl, hl⟩
    · cases h
  · cases h
theorem gTupN_some {n : Nat} {m : MV} {cs : List MV} (h : gTupN n m = some cs) : m = .tup cs ∧ cs.length = n := by
  unfold gTupN at h
  split at h
  · split at h
    · rename_i hl; cases h; exact ⟨rfl, hl⟩
    · cases h
  · cases h
theorem gCellsN_some {n : Nat} {m : Obj} {cs : List MV} (h : gCellsN n m = some cs) : m = .cells cs ∧ cs.length = n := by
  unfold gCellsN at h
  split at h
  · split at h
    · rename_i hl; cases h; exact ⟨rfl, hl⟩
    · cases h
  · cases h
theorem gMap_some {m : Obj} {cs : List (ByteArray × Bool)} (h : gMap m = some cs) : m = .map cs := by
  unfold gMap at h
  split at h
  · cases h; rfl
  · cases h
theorem opn1_eq {sh : Sh} {m : MV} {k : MV → Option R} (h : opn1 own sh m k = some r) : k m = some r ∧ m.pl = true := by
  unfold opn1 at h
  split at h
  · obtain ⟨b, hb, h⟩ := bnd_some h; rw [gBool_some hb]; exact ⟨h, rfl⟩
  · obtain ⟨b, hb, h⟩ := bnd_some h; rw [gInt_some hb]; exact ⟨h, rfl⟩
  · obtain ⟨b, hb, h⟩ := bnd_some h; rw [gStr_some hb]; exact ⟨h, rfl⟩
  · split at h
    · obtain ⟨b, hb, h⟩ := bnd_some h; rw [gOwn_some hb]; exact ⟨h, rfl⟩
    · obtain ⟨b, hb, h⟩ := bnd_some h; rw [gSl_some hb]; exact ⟨h, rfl⟩
  · obtain ⟨b, hb, h⟩ := bnd_some h; rw [gIf_some hb]; exact ⟨h, rfl⟩
  · simp at h
theorem cellAt_pl {row : Row} {c : Nat} (h : (cellAt row c).pl = true) : row.drop c = cellAt row c :: row.drop (c + 1) := by
  have hlt : c < row.length := by
    rcases Nat.lt_or_ge c row.length with h' | h'
    · exact h'
    · unfold cellAt at h
      rw [List.getD_eq_getElem?_getD, List.getElem?_eq_none h'] at h
      simp [MV.pl] at h
  rw [List.drop_eq_getElem_cons hlt]
  unfold cellAt
  rw [List.getD_eq_getElem?_getD, List.getElem?_eq_getElem hlt]; rfl
theorem opn_eq : ∀ (shs : List Sh) (row : Row) (c : Nat) (k : List MV → Option R), opn own shs row c k = some r →
    k ((row.drop c).take shs.length) = some r ∧ ((row.drop c).take shs.length).all MV.pl = true
  | [], row, c, k, h => ⟨by simpa [opn] using h, by simp⟩
  | sh :: shs, row, c, k, h => by
    unfold opn at h
    obtain ⟨h, hp⟩ := opn1_eq h
    obtain ⟨h, ha⟩ := opn_eq shs row (c + 1) _ h
    have e : (row.drop c).take (sh :: shs).length = cellAt row c :: (row.drop (c + 1)).take shs.length := by
      rw [cellAt_pl hp, List.length_cons, List.take_succ_cons]
    rw [e]
    exact ⟨h, by simp only [List.all_cons, hp, ha, Bool.and_self]⟩
theorem res1_eq {t : TypeId} {m : MV} {k : MV → Option R} (h : res1 E own t m k = some r) : k m = some r ∧ m.plV = true := by
  unfold res1 at h
  split at h
  · obtain ⟨cs, hc, h⟩ := bnd_some h
    obtain ⟨em, hl⟩ := gAggN_some hc
    obtain ⟨h, ha⟩ := opn_eq _ _ _ _ h
    have e : (cs.drop 0).take (tshape E.P t).length = cs := by rw [List.drop_zero, ← hl, List.take_length]
    rw [e] at h ha
    rw [em]
    exact ⟨h, ha⟩
  · split at h
    · obtain ⟨h, hp⟩ := opn1_eq h
      refine ⟨h, ?_⟩
      cases m <;> first | exact hp | (cases hp; done)
    · simp at h
theorem resT_eq : ∀ (ts : List TypeId) (ms : List MV) (j : Nat) (k : List MV → Option R), resT E own ts ms j k = some r → k ((ms.drop j).take ts.length) = some r ∧ ((ms.drop j).take ts.length).all MV.plV = true
  | [], ms, j, k, h => ⟨by simpa [resT] using h, by simp⟩
  | t :: ts, ms, j, k, h => by
    unfold resT at h
    obtain ⟨h, hp⟩ := res1_eq h
    obtain ⟨h, ha⟩ := resT_eq ts ms (j + 1) _ h
    have hlt : j < ms.length := by
      rcases Nat.lt_or_ge j ms.length with h' | h'
      · exact h'
      · unfold cellAt at hp
        rw [List.getD_eq_getElem?_getD, List.getElem?_eq_none h'] at hp
        simp [MV.plV, MV.pl] at hp
    have e : (ms.drop j).take (t :: ts).length = cellAt ms j :: (ms.drop (j + 1)).take ts.length := by
      rw [List.drop_eq_getElem_cons hlt, List.length_cons, List.take_succ_cons]
      unfold cellAt
      rw [List.getD_eq_getElem?_getD, List.getElem?_eq_getElem hlt]; rfl
    rw [e]
    exact ⟨h, by simp only [List.all_cons, hp, ha, Bool.and_self]⟩
theorem resS_eq {t : TypeId} {m : MV} {k : List MV → Bool → Option R} (h : resS E own t m k = some r) : ∃ ms b, k ms b = some r ∧ ms.all MV.plV = true ∧ ((b = true ∧ m = .tup ms) ∨ (b = false ∧ ms = [m])) := by
  unfold resS at h
  split at h
  · obtain ⟨vs, hc, h⟩ := bnd_some h
    obtain ⟨em, hl⟩ := gTupN_some hc
    obtain ⟨h, ha⟩ := resT_eq _ _ _ _ h
    rename_i ts _ _ _
    have e : (vs.drop 0).take ts.toList.length = vs := by rw [List.drop_zero, Array.length_toList, ← hl, List.take_length]
    rw [e] at h ha
    exact ⟨vs, true, h, ha, .inl ⟨rfl, em⟩⟩
  · obtain ⟨h, hp⟩ := res1_eq h
    exact ⟨_, false, h, by simp [hp], .inr ⟨rfl, rfl⟩⟩
variable {g g' : G} {cu cu' : H → Int} {w : World} {v : Value} {f : List Nat}
theorem gOwnK_some {m : MV} {r : List Row} (h : gOwnK m = some r) : m = .ownK r := by cases m <;> first | (cases h; rfl) | cases h
theorem BC.plain {m : MV} (h : BC g cu w v m f) (hp : m.pl = true) (e : g'.prot = g.prot) : BC g' cu' w v m f := by
  cases h with
  | rv h =>
    cases h <;> first | (cases hp; done) | skip
    rename_i h
    exact .rv (.sv (by rw [e]; exact h))
  | own0 => exact .own0
  | own hh hn hs hl hr => exact .own hh (by rw [e]; exact hn) hs hl (by rw [e]; exact hr)
  | ownK0 => exact .ownK0
  | ownK hh hn hs hl hr => exact .ownK hh (by rw [e]; exact hn) hs hl (by rw [e]; exact hr)
theorem BCs.plain {vs : List Value} {ms : List MV} (h : BCs g cu w vs ms f) (hp : ms.all MV.pl = true) (e : g'.prot = g.prot) : BCs g' cu' w vs ms f := by
  induction h with
  | nil => exact .nil
  | cons h _ ih =>
    simp only [List.all_cons, Bool.and_eq_true] at hp
    exact .cons (h.plain hp.1 e) (ih hp.2)
theorem BV.plain {m : MV} (h : BV g cu w v m f) (hp : m.plV = true) (e : g'.prot = g.prot) : BV g' cu' w v m f := by
  by_cases ha : m.isAg = true
  · obtain ⟨cs, em⟩ := ag_of ha
    subst em
    obtain ⟨vs, ev, hc⟩ := bv_agg h
    subst ev
    exact .agg (hc.plain hp e)
  · have ha : m.isAg = false := by simpa using ha
    exact .one ((h.bc_of ha).plain (by cases m <;> first | exact hp | (cases ha; done)) e)
theorem BVs.plain {vs : List Value} {ms : List MV} (h : BVs g cu w vs ms f) (hp : ms.all MV.plV = true) (e : g'.prot = g.prot) : BVs g' cu' w vs ms f := by
  induction h with
  | nil => exact .nil
  | cons h _ ih =>
    simp only [List.all_cons, Bool.and_eq_true] at hp
    exact .cons (h.plain hp.1 e) (ih hp.2)
/-- a result, taken apart -/
theorem resR_apart {m : MV} {ms : List MV} {b : Bool} (h : ResR g cu w v m f) (hm : (b = true ∧ m = .tup ms) ∨ (b = false ∧ ms = [m])) (hp : ms.all MV.plV = true) :
    ∃ vs, BVs g cu w vs ms f ∧ ∀ {g1 : G} {cu1 : H → Int} {w1 : World} {ms1 : List MV}, Rl (RV g1 cu1 w1) vs ms1 → RV g1 cu1 w1 v (unres ms1 b) := by
  rcases hm with ⟨e, em⟩ | ⟨e, em⟩
  · subst e; subst em
    cases h with
    | one _ hm => exact absurd rfl (hm ms)
    | @tup vs _ _ h =>
      refine ⟨_, h, fun hr => ?_⟩
      exact .tup (by have := hr.len; simpa using this) fun j v m h1 h2 => hr.at j v m (by simpa using h1) h2
  · subst e; subst em
    cases h with
    | one h _ =>
      refine ⟨[v], ?_, fun hr => ?_⟩
      · have := BVs.cons h .nil
        rwa [List.append_nil] at this
      · cases hr with
        | cons h t => cases t; exact h
    | tup h => simp [MV.plV, MV.pl] at hp
theorem scal_rv {m : MV} {vs : Value} (h : BV g cu w vs m f) (hs : m.scal = true) {g1 : G} {cu1 : H → Int} {w1 : World} : RV g1 cu1 w1 vs m := by
  cases h with
  | one h =>
    cases h with
    | rv h =>
      cases h <;> first | (cases hs; done) | skip
      rename_i h
      cases h <;> first | (cases hs; done) | skip
      · exact .sv (.bool _)
      · exact .sv (.int _ _)
      · exact .sv (.str _)
    | own0 => cases hs
    | own => cases hs
    | ownK0 => cases hs
    | ownK => cases hs
  | agg => cases hs
theorem scals_rl {ms : List MV} {vs : List Value} (h : BVs g cu w vs ms f) (hs : ms.all MV.scal = true) {g1 : G} {cu1 : H → Int} {w1 : World} : Rl (RV g1 cu1 w1) vs ms := by
  induction h with
  | nil => exact .nil
  | cons h _ ih =>
    simp only [List.all_cons, Bool.and_eq_true] at hs
    exact .cons (scal_rv h hs.1) (ih hs.2)
/-! what came back, in the shape of what was given -/
theorem sameP_ok {q : H → Option H} {old new : MV} {x : Unit} (h : sameP q old new = some x) :
    (∃ hd h1 o, old = .ptr hd o ∧ q hd = some h1 ∧ new = .ptr h1 o) ∨ (∃ hd h1, old = .mapr hd ∧ q hd = some h1 ∧ new = .mapr h1) ∨ (old = .nilp ∧ new = .nilp) := by
  unfold sameP at h
  split at h
  · split at h
    · rename_i hq
      unfold gPtrI at h
      split at h
      · split at h
        · rename_i hc; obtain ⟨e1, e2⟩ := hc; subst e1; subst e2; exact .inl ⟨_, _, _, rfl, hq, rfl⟩
        · cases h
      · cases h
    · cases h
  · split at h
    · rename_i hq
      unfold gMapI at h
      split at h
      · split at h
        · rename_i hc; subst hc; exact .inr (.inl ⟨_, _, rfl, hq, rfl⟩)
        · cases h
      · cases h
    · cases h
  · unfold gNilp at h
    split at h
    · exact .inr (.inr ⟨rfl, rfl⟩)
    · cases h
  · cases h
theorem rv_nilp {v : Value} (h : RV g cu w v .nilp) : v = .pointer none := by
  cases h with
  | sv h => cases h
  | nilp => rfl
variable {gs : List GH} {prot : Nat → Prop} {q : H → Option H}
theorem shape1_ok {old new : MV} {k : MV → Option R} (h : shape1 q old new k = some r) (hv : BC (gB gs prot) cu w v new f) (ep : g'.prot = prot) (hnd : ∀ h, (gB gs prot).rho h ≠ .dead)
    (hq : ∀ hd h1, q hd = some h1 → ∀ b, (gB gs prot).rho h1 = .box b → g'.rho hd = .box b) : ∃ m, k m = some r ∧ BC g' cu' w v m f := by
  unfold shape1 at h
  split at h
  · obtain ⟨b, hb, h⟩ := bnd_some h; rw [gBool_some hb] at hv; exact ⟨_, h, hv.plain rfl ep⟩
  · obtain ⟨b, hb, h⟩ := bnd_some h; rw [gInt_some hb] at hv; exact ⟨_, h, hv.plain rfl ep⟩
  · obtain ⟨b, hb, h⟩ := bnd_some h; rw [gStr_some hb] at hv; exact ⟨_, h, hv.plain rfl ep⟩
  · obtain ⟨b, hb, h⟩ := bnd_some h; rw [gSl_some hb] at hv; exact ⟨_, h, hv.plain rfl ep⟩
  · obtain ⟨b, hb, h⟩ := bnd_some h; rw [gOwn_some hb] at hv; exact ⟨_, h, hv.plain rfl ep⟩
  · obtain ⟨b, hb, h⟩ := bnd_some h; rw [gOwnK_some hb] at hv; exact ⟨_, h, hv.plain rfl ep⟩
  · obtain ⟨x, hb, hk⟩ := bnd_some h
    rcases sameP_ok hb with ⟨hd, h1, o, eo, eq, en⟩ | ⟨hd, h1, eo, eq, en⟩ | ⟨eo, en⟩
    · subst en; subst eo
      obtain ⟨ef, hv2⟩ := hv.rv_of rfl
      subst ef
      cases hv2 with
      | sv h => cases h
      | ptr e' => exact ⟨_, hk, .rv (.ptr (hq hd h1 eq _ e'))⟩
      | deadP e' _ => exact absurd e' (hnd h1)
    · subst en; subst eo
      obtain ⟨ef, hv2⟩ := hv.rv_of rfl
      subst ef
      cases hv2 with
      | sv h => cases h
      | mapr e' => exact ⟨_, hk, .rv (.mapr (hq hd h1 eq _ e'))⟩
      | deadM e' _ => exact absurd e' (hnd h1)
    · subst en; subst eo
      obtain ⟨ef, hv2⟩ := hv.rv_of rfl
      subst ef
      rw [rv_nilp hv2]
      exact ⟨_, hk, .rv .nilp⟩
theorem shapeL_ok (ep : g'.prot = prot) (hnd : ∀ h, (gB gs prot).rho h ≠ .dead) (hq : ∀ hd h1, q hd = some h1 → ∀ b, (gB gs prot).rho h1 = .box b → g'.rho hd = .box b) : ∀ (os : List MV) {j : Nat} {ns : List MV} {vs : List Value} {f : List Nat} {k : List MV → Option R}, shapeL q os j ns k = some r →
    BCs (gB gs prot) cu w vs (ns.drop j) f → (ns.drop j).length = os.length → ∃ ms, k ms = some r ∧ BCs g' cu' w vs ms f
  | [], j, ns, vs, f, k, h, hv, hl => by
    have : ns.drop j = [] := List.eq_nil_of_length_eq_zero hl
    rw [this] at hv
    cases hv
    exact ⟨[], h, .nil⟩
  | o :: os, j, ns, vs, f, k, h, hv, hl => by
    unfold shapeL at h
    have hlt : j < ns.length := by rw [List.length_drop, List.length_cons] at hl; omega
    have hd : ns.drop j = cellAt ns j :: ns.drop (j + 1) := by
      rw [List.drop_eq_getElem_cons hlt]
      unfold cellAt
      rw [List.getD_eq_getElem?_getD, List.getElem?_eq_getElem hlt]; rfl
    rw [hd] at hv hl
    generalize cellAt ns j = new at hv h hl
    cases hv with
    | cons hv ht =>
      obtain ⟨m, h, hm⟩ := shape1_ok (cu' := cu') h hv ep hnd hq
      obtain ⟨ms, h, hms⟩ := shapeL_ok ep hnd hq os h ht (by simpa using hl)
      exact ⟨_, h, .cons hm hms⟩
theorem likeO_ok (ep : g'.prot = prot) (hnd : ∀ h, (gB gs prot).rho h ≠ .dead) (hq : ∀ hd h1, q hd = some h1 → ∀ b, (gB gs prot).rho h1 = .box b → g'.rho hd = .box b) : ∀ (os : List Obj) {rs : List Obj} {b1 b2 : List GH} {f : List Nat} {k : List Obj → Option R}, likeO q os rs k = some r →
    BOs (gB gs prot) cu w (b1 ++ b2) rs f → b1.length = os.length → ∃ ns f1 f2, k ns = some r ∧ f = f1 ++ f2 ∧ BOs g' cu' w b1 ns f1 ∧ BOs (gB gs prot) cu w b2 (rs.drop os.length) f2 ∧ ∀ (j : Nat) (y : List Row), ns[j]? = some (.rows y) → ∃ x, os[j]? = some (.rows x) ∧ nrows y = nrows x
  | [], rs, b1, b2, f, k, h, hv, hl => by
    have : b1 = [] := List.eq_nil_of_length_eq_zero hl
    subst this
    exact ⟨[], [], f, h, rfl, .nil, hv, fun j y h => by simp at h⟩
  | o :: os, rs, b1, b2, f, k, h, hv, hl => by
    cases b1 with
    | nil => simp at hl
    | cons b b1 =>
      cases hv with
      | @cons _ o' fa _ rs fs hv ht =>
        cases o with
        | cells cs0 =>
          simp only [likeO, hdO, tlO, List.headD_cons, List.tail_cons] at h
          obtain ⟨ns, hn, hk⟩ := bnd_some h
          obtain ⟨eo, hlen⟩ := gCellsN_some hn
          subst eo
          cases hv with
          | cells hh hnp hc =>
            obtain ⟨ms, h, hms⟩ := shapeL_ok (cu' := cu') ep hnd hq _ hk (by simpa using hc) (by simpa using hlen)
            obtain ⟨ns', f1, f2, h, ef, h1, h2, h3⟩ := likeO_ok ep hnd hq os h ht (by simpa using hl)
            refine ⟨_, fa ++ f1, f2, h, by rw [ef, List.append_assoc], .cons (.cells hh (by rw [ep]; exact hnp) hms) h1, by simpa using h2, fun j y hy => ?_⟩
            cases j with
            | zero => simp at hy
            | succ j => exact h3 j y (by simpa using hy)
        | map es0 =>
          simp only [likeO, hdO, tlO, List.headD_cons, List.tail_cons] at h
          obtain ⟨es, hn, hk⟩ := bnd_some h
          have eo := gMap_some hn
          subst eo
          cases hv with
          | map hh hnp hm =>
            obtain ⟨ns', f1, f2, h, ef, h1, h2, h3⟩ := likeO_ok ep hnd hq os hk ht (by simpa using hl)
            refine ⟨_, [] ++ f1, f2, h, by rw [ef]; rfl, .cons (.map hh (by rw [ep]; exact hnp) hm) h1, by simpa using h2, fun j y hy => ?_⟩
            cases j with
            | zero => simp at hy
            | succ j => exact h3 j y (by simpa using hy)
        | rows x0 =>
          simp only [likeO, hdO, tlO, List.headD_cons, List.tail_cons] at h
          obtain ⟨y0, hn, hk⟩ := bnd_some h
          have eo : o' = .rows y0 := by
            unfold gRows at hn
            split at hn
            · cases hn; rfl
            · cases hn
          subst eo
          rcases br_some hk with ⟨hc, hk⟩ | ⟨_, hk⟩
          case inr => simp at hk
          have hlen := iEq_true hc
          have hB : BO g' cu' w b (.rows y0) [] ∧ fa = [] := by
            cases hv with
            | rows hh hnp hs hl hr => exact ⟨.rows hh (by rw [ep]; exact hnp) hs hl (by rw [ep]; exact hr), rfl⟩
            | rowsN => exact ⟨.rowsN, rfl⟩
          obtain ⟨hB, efa⟩ := hB
          subst efa
          obtain ⟨ns', f1, f2, h, ef, h1, h2, h3⟩ := likeO_ok ep hnd hq os hk ht (by simpa using hl)
          refine ⟨_, [] ++ f1, f2, h, by rw [ef]; rfl, .cons hB h1, by simpa using h2, fun j y hy => ?_⟩
          cases j with
          | zero => simp at hy; subst hy; exact ⟨x0, rfl, hlen⟩
          | succ j => exact h3 j y (by simpa using hy)
        | none => simp [likeO] at h
        | froz _ => simp [likeO] at h
end
end Kw
namespace Kw
set_option linter.unusedVariables false
set_option linter.unusedSimpArgs false
set_option linter.unusedSectionVars false
open Go
variable [Gl]
theorem dedup_nodup : ∀ l : List H, (dedup l).Nodup
  | [] => .nil
  | h :: hs => by
    unfold dedup
    refine List.nodup_cons.2 ⟨fun hm => ?_, (dedup_nodup hs).filter _⟩
    have := (List.mem_filter.1 hm).2
    simp at this
section
variable {R : Type} {r : R} {g g' gx : G} {cu cu' cux : H → Int} {w w' : World} {fr : Fr} {tmps : Array Value}
theorem keys_fgt (hs : List H) (os : List Obj) (ob : Ob) : (fgtOb hs os ob).map (·.1) = ob.map (·.1) := by
  unfold fgtOb
  rw [List.map_map]
  refine List.map_congr_left fun p _ => ?_
  simp only [Function.comp]
  split <;> rfl
theorem look_fgt {hs : List H} {os : List Obj} {h : H} (e : idx hs h 0 = none) : ∀ ob : Ob, look (fgtOb hs os ob) h = look ob h
  | [] => rfl
  | (a, o) :: ob => by
    have ih := look_fgt (os := os) e ob
    unfold fgtOb at ih ⊢
    simp only [List.map_cons]
    by_cases ea : a = h
    · subst ea; rw [e]; simp [look]
    · cases e' : idx hs a 0 with
      | none => simp only [look, if_neg ea]; exact ih
      | some i => simp only [look, if_neg ea]; exact ih
theorem if_iff {p q : Prop} [Decidable p] [Decidable q] {α : Type} (h : p ↔ q) (x y : α) : (if p then x else y) = if q then x else y := by
  by_cases hq : q
  · rw [if_pos hq, if_pos (h.2 hq)]
  · rw [if_neg hq, if_neg fun hp => hq (h.1 hp)]
theorem look_fgt_in {hs : List H} {os : List Obj} {h : H} {i : Nat} (e : idx hs h 0 = some i) : ∀ ob : Ob, look (fgtOb hs os ob) h = if h ∈ ob.map (·.1) then forgetO (os.getD i .none) else .none
  | [] => rfl
  | (a, o) :: ob => by
    have ih := look_fgt_in (os := os) e ob
    unfold fgtOb at ih ⊢
    simp only [List.map_cons]
    by_cases ea : a = h
    · subst ea; rw [e]; simp [look]
    · have hm : h ∈ (a :: ob.map (·.1)) ↔ h ∈ ob.map (·.1) := by simp [Ne.symm ea]
      rw [if_iff hm]
      cases e' : idx hs a 0 with
      | none => simp only [look, if_neg ea]; exact ih
      | some i => simp only [look, if_neg ea]; exact ih
theorem idx_mem : ∀ (hs : List H) (h : H) (n i : Nat), idx hs h n = some i → h ∈ hs
  | [], h, n, i, e => by simp [idx] at e
  | a :: hs, h, n, i, e => by
    unfold idx at e
    split at e
    · rename_i ea; rw [ea]; exact List.mem_cons_self
    · exact List.mem_cons_of_mem _ (idx_mem hs h _ i e)
theorem BOs.get {bs : List GH} {os : List Obj} {f : List Nat} (h : BOs g cu w bs os f) : ∀ (i : Nat) (b : GH), bs[i]? = some b → ∃ o f, os[i]? = some o ∧ BO g cu w b o f := by
  induction h with
  | nil => intro i b hb; simp at hb
  | cons h _ ih =>
    intro i b hb
    cases i with
    | zero => simp at hb; subst hb; exact ⟨_, _, rfl, h⟩
    | succ i => exact ih i b (by simpa using hb)
theorem fgt_sim {hs : List H} {ns : List Obj} {gs : List GH} {F F' fo : List Nat} {prot' : Nat → Prop} (S : Sim fr g tmps w) (hnd : hs.Nodup) (hl : gs.length = hs.length) (hbx : ∀ (j : Nat) (h : H) (b : GH), hs[j]? = some h → gs[j]? = some b → g.rho h = b)
    (B : BOs gx cux w' gs ns fo) (hgx : gx.prot = prot') (hlen : ∀ (j : Nat) (h : H) (y : List Row), hs[j]? = some h → ns[j]? = some (.rows y) → cur fr.ob h = nrows y) (K : Frm F g.prot w F' prot' w') (hF : ∀ b ∈ F, (b ∈ blks gs ∨ ∀ h, (g.rho h).blk ≠ some b) ∧ ¬ g.prot b) (hplt : ∀ b, prot' b → b < w'.heap.size) :
    Sim { fr with ob := fgtOb hs ns fr.ob } ⟨g.rho, prot'⟩ tmps w' ∧ ∀ h, cur (fgtOb hs ns fr.ob) h = cur fr.ob h := by
  have hin : ∀ h i, idx hs h 0 = some i → ∃ x, hs[i]? = some h ∧ gs[i]? = some x ∧ g.rho h = x := fun h i e => by
    have hi := ((idx_spec hs h 0 i hnd).1 e).2
    simp only [Nat.sub_zero] at hi
    have hlt : i < gs.length := by rw [hl]; exact (List.getElem?_eq_some_iff.1 hi).1
    exact ⟨_, hi, List.getElem?_eq_getElem hlt, hbx i h _ hi (List.getElem?_eq_getElem hlt)⟩
  have hcur : ∀ h, cur (fgtOb hs ns fr.ob) h = cur fr.ob h := fun h => by
    cases e : idx hs h 0 with
    | none => unfold cur; rw [look_fgt e]
    | some i =>
      obtain ⟨x, h1, h2, h3⟩ := hin h i e
      obtain ⟨o', f', ho', hB⟩ := B.get i x h2
      have hk : h ∈ fr.ob.map (·.1) := by
        refine Classical.byContradiction fun hn => ?_
        rw [(S.o.abs h).2 hn] at h3
        exact B.ne i x h2 h3.symm
      have hlk : look (fgtOb hs ns fr.ob) h = forgetO o' := by
        rw [look_fgt_in e, if_pos hk, List.getD_eq_getElem?_getD, ho']; rfl
      cases hB with
      | cells => rw [cur_box S.o h3]; unfold cur; rw [hlk]; rfl
      | map => rw [cur_box S.o h3]; unfold cur; rw [hlk]; rfl
      | rows => rw [hlen i h _ h1 ho']; unfold cur; rw [hlk]; rfl
      | rowsN => rw [hlen i h _ h1 ho']; unfold cur; rw [hlk]; rfl
  have hprotF : ∀ b, g.prot b → b ∉ F := fun b hp hm => (hF b hm).2 hp
  have L : Later g ⟨g.rho, prot'⟩ (cur fr.ob) (cur (fgtOb hs ns fr.ob)) w w' := by
    refine ⟨fun _ _ e => .inl e, fun h _ _ _ e => .inr ⟨?_, .inl e⟩, fun h e => .inr ⟨?_, .inl e⟩, fun _ e => e, K.psub, fun b hp => K.heap b (S.o.plt b hp) (hprotF b hp)⟩
    · rw [hcur h]; exact Int.le_refl _
    · rw [hcur h]; exact Int.le_refl _
  refine ⟨S.later L ⟨by rw [keys_fgt]; exact S.o.keys, fun h => by rw [keys_fgt]; exact S.o.abs h, fun h o hm => ?_, S.o.inj, fun h b e => Nat.lt_of_lt_of_le (S.o.lt h b e) K.size, hplt, S.o.gl.mono L.prot L.heap⟩, hcur⟩
  unfold fgtOb at hm
  obtain ⟨p, hp, e⟩ := List.mem_map.1 hm
  cases ei : idx hs p.1 0 with
  | none =>
    rw [ei] at e
    simp only at e
    subst e
    have hnb : ∀ b, (g.rho h).blk = some b → b ∉ F := fun b eb hm => by
      rcases (hF b hm).1 with hx | hx
      · obtain ⟨x, hx, ex⟩ := mem_blks.1 hx
        obtain ⟨j, hj, ej⟩ := List.mem_iff_getElem.1 hx
        have hj' : j < hs.length := by rw [← hl]; exact hj
        have e2 := hbx j _ x (List.getElem?_eq_getElem hj') (by rw [List.getElem?_eq_getElem hj, ej])
        have := S.o.inj _ _ _ eb (by rw [e2]; exact ex)
        have hi := (idx_spec hs h 0 j hnd).2 ⟨by omega, by rw [this]; simp⟩
        simp only at ei
        rw [ei] at hi; cases hi
      · exact hx h eb
    refine (S.o.obj h o hp).mono L rfl (fun b eb => K.heap b (S.o.lt h b eb) (hnb b eb)) (fun b eb hn hp' => ?_)
    rcases K.pnew b hp' with x | x | x
    · exact hn x
    · have := S.o.lt h b eb; omega
    · exact hnb b eb x
  | some i =>
    rw [ei] at e
    simp only at e
    cases e
    obtain ⟨x, _, hb, er⟩ := hin _ _ ei
    obtain ⟨o', f', ho', hB⟩ := B.get i x hb
    rw [List.getD_eq_getElem?_getD, ho']
    simp only [Option.getD_some]
    cases hB with
    | @cells b arr ty cs _ hh hn hc =>
      refine ⟨b, arr, ty, er, hh, by rw [hgx] at hn; exact hn, by have := hc.len; simpa using this, fun j v m h1 h2 => ?_⟩
      rw [List.getElem?_map] at h2
      obtain ⟨m', _, e⟩ := Option.map_eq_some_iff.1 h2
      rw [← e]; exact .undef _
    | @map b _ _ _ hh hn hm => exact ⟨b, _, _, er, hh, by rw [hgx] at hn; exact hn, hm⟩
    | @rows b cap sz arr ty rs hh hn hs hl hr => exact .inr ⟨b, cap, sz, arr, ty, er, hh, by rw [hgx] at hn; exact hn, hs.weak (fun e => by cases e), hl, by rw [hgx] at hr; exact hr⟩
    | rowsN => exact .inl ⟨er, rfl⟩
/-- what is lent is guarded for a while -/
def G.lent (g : G) : G := ⟨g.rho, fun b => g.prot b ∨ ∃ h, (g.rho h).blk = some b⟩
theorem later_lent : Later g g.lent cu cu w w :=
  ⟨fun _ _ e => .inl e, fun h _ _ _ e => .inr ⟨Int.le_refl _, .inl e⟩, fun h e => .inr ⟨Int.le_refl _, .inl e⟩, fun _ e => e, fun _ h => .inl h, fun _ _ => rfl⟩
theorem lend1_ok {m : MV} {k : MV → Option R} {v : Value} (h : lend1 fr m k = some r) (S : Sim fr g tmps w) (hv : RV g (cur fr.ob) w v m) : ∃ m', k m' = some r ∧ RV g.lent (cur fr.ob) w v m' := by
  unfold lend1 at h
  split at h
  · rename_i hd n
    split at h
    · rename_i x e
      rcases br_some h with ⟨en, h⟩ | ⟨_, h⟩
      · refine ⟨_, h, .sv ?_⟩
        have hn := iEq_true en
        have hcur : n = cur fr.ob hd := by unfold cur; unfold Fr.obj at e; rw [e]; exact hn
        rcases obj_of S.o e (by simp) with ⟨er, ex⟩ | ⟨b, cap, sz, arr, ty, er, hh, hnp, hs, hl, hr⟩
        · subst ex
          obtain ⟨a0, ev⟩ := rv_refN hv er hcur
          rw [ev]
          exact sv_nil _ _
        · rw [rv_ref hv er hcur, hn]
          have : (nrows x).toNat = x.length := by unfold nrows; simp
          rw [this]
          exact sv_rows (.inr ⟨_, by rw [er]; rfl⟩) hh hl (hr.mono (fun _ h => .inl h) fun _ _ => rfl)
      · simp at h
    · rename_i x e
      rcases br_some h with ⟨en, h⟩ | ⟨_, h⟩
      · exact ⟨_, h, .sv ((froz_sv S e (iEq_true en) hv).mono (fun _ h => .inl h) fun _ _ => rfl)⟩
      · simp at h
    · simp at h
  · rw [rv_nils hv]; exact ⟨_, h, .sv (sv_nil _ _)⟩
  · exact ⟨_, h, hv.mono later_lent⟩
theorem lendL_ok (S : Sim fr g tmps w) : ∀ (ms : List MV) {vs : List Value} {k : List MV → Option R}, lendL fr ms k = some r → Rl (RV g (cur fr.ob) w) vs ms → ∃ ms', k ms' = some r ∧ Rl (RV g.lent (cur fr.ob) w) vs ms'
  | [], vs, k, h, hv => by cases hv; exact ⟨[], h, .nil⟩
  | m :: ms, vs, k, h, hv => by
    cases hv with
    | cons hv ht =>
      simp only [lendL] at h
      obtain ⟨m', h, h1⟩ := lend1_ok h S hv
      obtain ⟨ms', h, h2⟩ := lendL_ok S ms h ht
      exact ⟨_, h, .cons h1 h2⟩
theorem lendA_ne {m : MV} (ha : m.isAg = false) (ms : List MV) (k : List MV → Option R) : lendA fr (m :: ms) k = lend1 fr m fun m => lendA fr ms fun ms => k (m :: ms) := by
  cases m <;> first | rfl | (cases ha; done)
theorem lendA_ok (S : Sim fr g tmps w) : ∀ (ms : List MV) {vs : List Value} {k : List MV → Option R}, lendA fr ms k = some r → Rl (RV g (cur fr.ob) w) vs ms → ∃ ms', k ms' = some r ∧ Rl (RV g.lent (cur fr.ob) w) vs ms'
  | [], vs, k, h, hv => by cases hv; exact ⟨[], h, .nil⟩
  | m :: ms, vs, k, h, hv => by
    cases hv with
    | cons hv ht =>
      by_cases ha : m.isAg = true
      · obtain ⟨cs, e⟩ := ag_of ha
        subst e
        simp only [lendA] at h
        obtain ⟨us, ev, hl, hr⟩ := rv_agg hv
        obtain ⟨cs', h, h1⟩ := lendL_ok S cs h (rl_of us.toList cs (by simpa using hl) fun j v m h1 h2 => hr j v m (by simpa using h1) h2)
        obtain ⟨ms', h, h2⟩ := lendA_ok S ms h ht
        refine ⟨_, h, .cons ?_ h2⟩
        rw [ev]
        exact .agg (by have := h1.len; simpa using this) fun q x y e1 e2 => h1.at q x y (by simpa using e1) e2
      · have ha : m.isAg = false := by simpa using ha
        rw [lendA_ne ha] at h
        obtain ⟨m', h, h1⟩ := lend1_ok h S hv
        obtain ⟨ms', h, h2⟩ := lendA_ok S ms h ht
        exact ⟨_, h, .cons h1 h2⟩
/-- the world goes on, and what a frame knows of stays -/
theorem sim_world (S : Sim fr g tmps w) (hw : ∀ b, b < w.heap.size → w'.heap[b]? = w.heap[b]?) (hs : w.heap.size ≤ w'.heap.size) : Sim fr g tmps w' := by
  have L : Later g g (cur fr.ob) (cur fr.ob) w w' :=
    ⟨fun _ _ e => .inl e, fun _ _ _ _ e => .inr ⟨Int.le_refl _, .inl e⟩, fun _ e => .inr ⟨Int.le_refl _, .inl e⟩, fun _ e => e, fun _ h => h, fun b hp => hw b (S.o.plt b hp)⟩
  exact S.later L ⟨S.o.keys, S.o.abs, fun h o hm => (S.o.obj h o hm).mono L rfl (fun b e => hw b (S.o.lt h b e)) fun _ _ hn => hn, S.o.inj, fun h b e => Nat.lt_of_lt_of_le (S.o.lt h b e) hs, fun b hp => Nat.lt_of_lt_of_le (S.o.plt b hp) hs, S.o.gl.mono L.prot L.heap⟩
theorem UponF.mono {P : Program} {f : FuncId} {vals : Array Value} {Rq Rq' : Value → World → Prop} (h : UponF P f vals w Rq) (hm : ∀ v w', Rq v w' → Rq' v w') : UponF P f vals w Rq' := by
  unfold UponF at *
  split
  · rename_i e
    rw [e] at h
    simp only at h
    exact h.mono fun e w'' ⟨v, he, hr⟩ => ⟨v, he, hm _ _ hr⟩
  · rename_i e
    rw [e] at h
    exact hm _ _ h
  · rename_i h1 h2
    split at h
    · rename_i e; exact absurd e (h1 _ _ _)
    · rename_i e; exact absurd e (h2 _ _)
    · exact h
end
end Kw
namespace Kw
set_option linter.unusedVariables false
set_option linter.unusedSimpArgs false
set_option linter.unusedSectionVars false
open Go
variable [Gl]
section
variable {R : Type} {r : R} {g : G} {w : World} {fr : Fr} {E : Env} {run : Run}
/-- what goes on behind a call's result -/
theorem good_put {k : Fr → Option R} {fr1 : Fr} {g g' : G} {w w' : World} {a : Act} {dst : Option Tmp} {v : Value} {m : MV}
    (hk : k (fr1.finish dst m) = some r) (S : Sim fr1 g' a.tmps w') (h : RV g' (cur fr1.ob) w' v m) (F : Fm g w g' w') : Good r k g w a (a.put dst v) w' := good_fin hk S h F
theorem giveX_ok {f : FuncId} {tmps : Array Value} {ms : List MV} {vs : List Value} {k : List MV → Fr → Option R} (h : giveX E f ms fr k = some r) (S : Sim fr g tmps w) (hv : Rl (RV g (cur fr.ob) w) vs ms) :
    ∃ ms' fr' g' f, k ms' fr' = some r ∧ Gv fr fr' g g' f tmps w ∧ BVs g' (cur fr'.ob) w vs ms' f := by
  unfold giveX at h
  split at h
  · exact ⟨ms, fr, g, [], h, Gv.refl S, bvs_of_rl hv⟩
  · exact giveA_ok _ h S hv
theorem evCall_ok (hrun : RunOk E.P run) {f : FuncId} {margs : List MV} {vals : Array Value} {o : Oper} {k : Fr → Option R} {a : Act}
    (h : evCall E run f margs fr o k = some r) (S : Sim fr g a.tmps w) (hv : Rl (RV g (cur fr.ob) w) vals.toList margs) :
    UponF E.P f vals w fun v w' => Good r k g w a (a.put o.dst v) w' := by
  unfold evCall evCallM at h
  simp only at h
  split at h
  · obtain ⟨args', h, hv'⟩ := lendA_ok S _ h hv
    obtain ⟨res, hres, h⟩ := bnd_some h
    have hb : BVs (gB [] g.lent.prot) (cuB []) w vals.toList (args'.map (subM (toI []))) [] :=
      (bvs_of_rl hv').out (hs := []) (gs := []) .nil rfl (fun j h b h1 => by simp at h1) (fun i => by simp [frI, cuB])
    have p : Pre [] g.lent.prot w vals.toList (args'.map (subM (toI []))) [] [] [] :=
      ⟨hb, .nil, .nil, fun b hb => by simp [blks] at hb, fun b hp => hp.elim (S.o.plt b) fun ⟨h, e⟩ => S.o.lt h b e, S.o.gl.mono (fun _ h => .inl h) fun _ _ => rfl⟩
    refine (hrun hres p).mono fun v w' ⟨ex, prot', fa', fo', hR, _, _, _, _, K⟩ => ?_
    obtain ⟨ms, b, h, hp, hm⟩ := resS_eq h
    split at h
    case isFalse => simp at h
    rename_i hs
    obtain ⟨vs, hvs, hun⟩ := resR_apart hR hm hp
    have hheap : ∀ b, b < w.heap.size → w'.heap[b]? = w.heap[b]? := fun b hb => K.heap b hb (by simp [blks])
    exact good_put h (sim_world S hheap K.size) (hun (scals_rl hvs hs)) ⟨K.os, K.tape, K.output, K.size, fun b hb _ => hheap b hb, fun h b e => .inr ⟨h, e⟩, fun _ h => h, fun _ h => .inl h, fun _ => .inl rfl⟩
  · obtain ⟨args', fr1, g1, f1, h, G1, B1⟩ := giveX_ok h S hv
    obtain ⟨os, fr2, g2, f2, gs, h, G2, B2, hl, hbx, hrw⟩ := giveO_ok _ h G1.sim
    have hnd : (closeH fr1 (args'.flatMap handles ++ ioRefs E f args')).Nodup := dedup_nodup _
    generalize closeH fr1 (args'.flatMap handles ++ ioRefs E f args') = hs at *
    have G12 := G1.trans G2
    have B1' := B1.next G2 fun b hb => (G1.own b hb).2.1
    obtain ⟨hnod, hfg, hlt, hbsb⟩ := give_sep S G12 hnd hl hbx
    obtain ⟨res, hres, h⟩ := bnd_some h
    have hcu := give_cu G2.sim.o B2 hl hbx hrw
    have p : Pre gs g2.prot w vals.toList (args'.map (subM (toI hs))) (os.map (subO (toI hs))) f1 f2 :=
      ⟨B1'.out hnd hl hbx hcu, B2.out hnd hl hbx hcu, hnod, hlt, G2.sim.o.plt, G2.sim.o.gl⟩
    refine (hrun hres p).mono fun v w' ⟨ex, prot', fa', fo', hR, hO, hnod', hlt', hplt', K⟩ => ?_
    have hosl : gs.length = os.length := B2.len
    have ebl : blks (gs ++ ex) = blks gs ++ blks ex := List.filterMap_append
    have hdead : ∀ h, (gB (gs ++ ex) prot').rho h ≠ .dead := fun h => by
      cases h with
      | imp i =>
        unfold gB
        simp only
        cases e : (gs ++ ex)[i]? with
        | none => simp
        | some x => exact hO.nd i x e
      | impc i j => simp [gB]
      | loc t j => simp [gB]
    have hq : ∀ hd h1, toI hs hd = some h1 → ∀ b, (gB (gs ++ ex) prot').rho h1 = .box b → (⟨g2.rho, prot'⟩ : G).rho hd = .box b := by
      intro hd h1 e b eb
      have e' := (toI_inv hnd hd h1).1 e
      cases h1 with
      | imp i =>
        simp only [frI] at e'
        have hlti : i < gs.length := by rw [hl]; exact (List.getElem?_eq_some_iff.1 e').1
        have hgi : (gs ++ ex)[i]? = some (gs[i]'hlti) := by rw [List.getElem?_append_left hlti, List.getElem?_eq_getElem hlti]
        rw [gB_imp hgi] at eb
        exact (hbx i hd _ e' (List.getElem?_eq_getElem hlti)).trans eb
      | impc i j => cases e'
      | loc t j => cases e'
    obtain ⟨ns, fo1, fo2, h, ef, BN, BX, hlen⟩ := likeO_ok (cu' := cur fr2.ob) (g' := ⟨g2.rho, prot'⟩) rfl hdead hq os h hO hosl
    subst ef
    have hF : ∀ b ∈ f1 ++ f2 ++ blks gs, (b ∈ blks gs ∨ ∀ h, (g2.rho h).blk ≠ some b) ∧ ¬ g2.prot b := fun b hb => by
      rcases List.mem_append.1 hb with x | x
      · exact ⟨.inr (G12.own b x).2.1, (G12.own b x).2.2⟩
      · exact ⟨.inl x, B2.bnp b x⟩
    obtain ⟨S3, hc3⟩ := fgt_sim G2.sim hnd hl hbx BN rfl (fun j h y h1 h2 => by
      obtain ⟨x, h3, h4⟩ := hlen j y h2
      have := hrw j h x h1 h3
      unfold Fr.obj at this
      unfold cur; rw [this, h4]) K hF hplt'
    rw [ebl] at hnod' K
    have L3 : Later (⟨g2.rho, prot'⟩ : G) ⟨g2.rho, prot'⟩ (cur fr2.ob) (cur (fgtOb hs ns fr2.ob)) w' w' :=
      ⟨fun _ _ e => .inl e, fun h _ _ _ e => .inr ⟨by rw [hc3 h]; exact Int.le_refl _, .inl e⟩, fun h e => .inr ⟨by rw [hc3 h]; exact Int.le_refl _, .inl e⟩, fun _ e => e, fun _ h => h, fun _ _ => rfl⟩
    have BN3 : BOs (⟨g2.rho, prot'⟩ : G) (cur (fgtOb hs ns fr2.ob)) w' gs ns fo1 := BN.mono L3 (fun b hb => ⟨rfl, BN.np b hb⟩) fun x _ b hb => ⟨rfl, id⟩
    obtain ⟨hn1, hn2, hn3⟩ := List.nodup_append.1 hnod'
    obtain ⟨hna, hno, hao⟩ := List.nodup_append.1 hn1
    obtain ⟨hno1, hno2, ho12⟩ := List.nodup_append.1 hno
    obtain ⟨hbs, hex, hbe⟩ := List.nodup_append.1 hn2
    have hnew : ∀ b, b ∈ fa' ++ (fo1 ++ fo2) ++ (blks gs ++ blks ex) → b ∉ blks gs → ∀ h, (g2.rho h).blk ≠ some b := fun b hb hnb h e => by
      rcases K.own b hb with x | x
      · have := G2.sim.o.lt h b e; omega
      · rcases List.mem_append.1 x with y | y
        · exact (G12.own b y).2.1 h e
        · exact hnb y
    have hnA : ∀ b ∈ fa', ∀ h, (g2.rho h).blk ≠ some b := fun b hb => hnew b (by simp [hb]) fun hx => hn3 b (by simp [hb]) b (by simp [hx]) rfl
    have hnO : ∀ b ∈ fo1 ++ fo2, ∀ h, (g2.rho h).blk ≠ some b := fun b hb => hnew b (by simp only [List.mem_append] at hb ⊢; exact .inl (.inr hb)) fun hx => hn3 b (by simp only [List.mem_append] at hb ⊢; exact .inr hb) b (by simp [hx]) rfl
    have hnX : ∀ b ∈ blks ex, ∀ h, (g2.rho h).blk ≠ some b := fun b hb => hnew b (by simp [hb]) fun hx => hbe b hx b hb rfl
    have hFm : ∀ g5 : G, g5.prot = prot' → (∀ h b, (g5.rho h).blk = some b → (g2.rho h).blk = some b ∨ b ∈ fa' ++ (fo1 ++ fo2) ++ (blks gs ++ blks ex)) → (∀ i, g5.rho (.imp i) = g2.rho (.imp i)) → Fm g w g5 w' := fun g5 e1 e2 e3 => by
      refine ⟨K.os, K.tape, K.output, K.size, fun b hb hn => K.heap b hb fun hm => ?_, fun h b e => ?_, fun b hp => ?_, fun b hp => ?_, fun i => ?_⟩
      · obtain ⟨h, e⟩ := hfg b hm; exact hn h e
      · rcases e2 h b e with x | x
        · exact .inr ⟨h, G12.blk h b x⟩
        · rcases K.own b x with y | y
          · exact .inl y
          · obtain ⟨h, e⟩ := hfg b y; exact .inr ⟨h, e⟩
      · rw [e1]; exact K.psub b (G12.later.prot b hp)
      · rw [e1] at hp
        rcases K.pnew b hp with x | x | x
        · rcases G12.prot' b x with y | ⟨h, y, _⟩
          · exact .inl y
          · exact .inr (.inr ⟨h, y⟩)
        · exact .inr (.inl x)
        · obtain ⟨h, e⟩ := hfg b x; exact .inr (.inr ⟨h, e⟩)
      · rw [e3]; exact G12.imp i
    have hback : ∀ {kk : Fr → Option R}, backO (nmB (o.dst.getD 0)) hs ns 0 { fr2 with ob := fgtOb hs ns fr2.ob } kk = some r → ∃ fr4 g4, kk fr4 = some r ∧ Sim fr4 g4 a.tmps w' ∧ g4.prot = prot' ∧ (∀ h b, (g4.rho h).blk = some b → (g2.rho h).blk = some b ∨ b ∈ fo1) ∧ ∀ i, g4.rho (.imp i) = g2.rho (.imp i) := fun hk => by
      obtain ⟨fr4, g4, hk, S4, A4⟩ := backO_ok (nm := nmB (o.dst.getD 0)) (by simp [nmB]) hs ns hk S3 BN3 hbx hno1 (fun b hb => hnO b (by simp [hb]))
      exact ⟨fr4, g4, hk, S4, A4.prot, A4.blk, A4.imp⟩
    split at h
    · -- a pointer to a new box
      rename_i e _
      obtain ⟨_, hnP, h⟩ := bnd_some h
      obtain ⟨cs, hcs, h⟩ := bnd_some h
      have em : res.1 = .ptr (.imp hs.length) 0 := by
        unfold newP at hnP
        split at hnP
        · rename_i hm
          split at hnP
          · rename_i hc; rw [hm, hc.1, hc.2]
          · cases hnP
        · cases hnP
      rw [em] at hR
      have hRV : RV (gB (gs ++ ex) prot') (cuB res.2) w' v (.ptr (.imp hs.length) 0) ∧ fa' = [] := by
        cases hR with
        | one h _ => exact ⟨((h.bc_of rfl).rv_of rfl).2, ((h.bc_of rfl).rv_of rfl).1⟩
      obtain ⟨hRV, efa⟩ := hRV
      subst efa
      cases ex with
      | nil =>
        exfalso
        have : (gB (gs ++ []) prot').rho (.imp hs.length) = .absent := by simp [gB, ← hl]
        cases hRV with
        | sv h => cases h
        | ptr e' => rw [this] at e'; cases e'
        | deadP e' _ => rw [this] at e'; cases e'
      | cons x ex =>
        have exx : (gB (gs ++ x :: ex) prot').rho (.imp hs.length) = x := gB_imp (by rw [← hl]; simp)
        have hbx0 : ∃ b, x = .box b := by
          cases hRV with
          | sv h => cases h
          | ptr e' => exact ⟨_, exx.symm.trans e'⟩
          | deadP e' _ => exact absurd e' (hdead _)
        obtain ⟨b, exb⟩ := hbx0
        subst exb
        have ev := rv_ptr hRV exx
        have ebx : blks (GH.box b :: ex) = b :: blks ex := rfl
        rw [ebx] at hn2 hn3 hnX hFm hnew hex hbe
        have hdrop : ∃ o' rs, res.2.drop os.length = o' :: rs := by
          cases hd : res.2.drop os.length with
          | nil => rw [hd] at BX; cases BX
          | cons o' rs => exact ⟨o', rs, rfl⟩
        obtain ⟨o', rs, hd⟩ := hdrop
        rw [hd] at BX
        have hget : nthO res.2 hs.length = o' := by
          unfold nthO
          rw [List.getD_eq_getElem?_getD, ← hl, hosl]
          have := congrArg (fun l => l[0]?) hd
          simp only [List.getElem?_drop, Nat.add_zero, List.getElem?_cons_zero] at this
          rw [this]; rfl
        rw [hget] at hcs
        obtain ⟨eo, hlen⟩ := gCellsN_some hcs
        subst eo
        cases BX with
        | @cons _ _ fx _ _ fs hB hBt =>
          cases hB with
          | @cells _ arr ty _ _ hh hnp hc =>
            obtain ⟨h, hpl⟩ := opn_eq _ _ _ _ h
            have ecs : (cs.drop 0).take (tshape E.P e).length = cs := by rw [List.drop_zero, ← hlen, List.take_length]
            rw [ecs] at h hpl
            obtain ⟨fr4, g4, h, S4, ep4, hb4, hi4⟩ := hback h
            obtain ⟨hfx, hfs, hxs⟩ := List.nodup_append.1 hno2
            have hb4' : ∀ x, (∀ h, (g2.rho h).blk ≠ some x) → x ∉ fo1 → ∀ h, (g4.rho h).blk ≠ some x := fun x h1 h2 h e' => by
              rcases hb4 h x e' with y | y
              · exact h1 h y
              · exact h2 y
            obtain ⟨cs', fr5, g5, h, S5, A5, hr5⟩ := layC_ok (nm := nmR (o.dst.getD 0) 1) (by simp [nmR]) cs h S4 (hc.plain hpl ep4) hfx (fun x hx => hb4' x (hnO x (by simp [hx])) fun hy => ho12 x hy x (by simp [hx]) rfl)
            obtain ⟨hfree, h⟩ := lay_some h
            have hbx5 : ∀ h', (g5.rho h').blk ≠ some b := fun h' e' => by
              rcases A5.blk h' b e' with y | y
              · exact hb4' b (hnX b (by simp)) (fun hy => hn3 b (by simp [hy]) b (by simp) rfl) h' y
              · exact hn3 b (by simp [y]) b (by simp) rfl
            obtain ⟨S6, A6⟩ := adopt S5 (by simp) hfree (.cells cs') (.box b) [b] (by simp) (fun x e' => by cases e'; simp) (fun x e' => by cases e'; exact ⟨heap_lt hh, hbx5⟩)
              (fun L => ⟨b, arr, ty, setR_self, hh, by rw [show (g5.setR (.loc (o.dst.getD 0) 0) (.box b)).prot = g5.prot from rfl, A5.prot, ep4]; exact hnp, by have := hr5.len; simpa using this, fun j x m h1 h2 => (hr5.at j x m (by simpa using h1) h2).mono L⟩)
            refine good_put h S6 (by rw [ev]; exact .ptr setR_self) (hFm _ ?_ (fun h' x e' => ?_) fun i => ?_)
            · exact (A6.prot.trans A5.prot).trans ep4
            · rcases A6.blk h' x e' with y | y
              · rcases A5.blk h' x y with z | z
                · rcases hb4 h' x z with u | u
                  · exact .inl u
                  · exact .inr (by simp [u])
                · exact .inr (by simp [z])
              · simp at y; subst y; exact .inr (by simp)
            · exact ((A6.imp i).trans (A5.imp i)).trans (hi4 i)
    · -- a new map
      obtain ⟨_, hnP, h⟩ := bnd_some h
      obtain ⟨es, hes, h⟩ := bnd_some h
      have em : res.1 = .mapr (.imp hs.length) := by
        unfold newM at hnP
        split at hnP
        · rename_i hm
          split at hnP
          · rename_i hc; rw [hm, hc]
          · cases hnP
        · cases hnP
      rw [em] at hR
      have hRV : RV (gB (gs ++ ex) prot') (cuB res.2) w' v (.mapr (.imp hs.length)) ∧ fa' = [] := by
        cases hR with
        | one h _ => exact ⟨((h.bc_of rfl).rv_of rfl).2, ((h.bc_of rfl).rv_of rfl).1⟩
      obtain ⟨hRV, efa⟩ := hRV
      subst efa
      cases ex with
      | nil =>
        exfalso
        have : (gB (gs ++ []) prot').rho (.imp hs.length) = .absent := by simp [gB, ← hl]
        cases hRV with
        | sv h => cases h
        | mapr e' => rw [this] at e'; cases e'
        | deadM e' _ => rw [this] at e'; cases e'
      | cons x ex =>
        have exx : (gB (gs ++ x :: ex) prot').rho (.imp hs.length) = x := gB_imp (by rw [← hl]; simp)
        have hbx0 : ∃ b, x = .box b := by
          cases hRV with
          | sv h => cases h
          | mapr e' => exact ⟨_, exx.symm.trans e'⟩
          | deadM e' _ => exact absurd e' (hdead _)
        obtain ⟨b, exb⟩ := hbx0
        subst exb
        have ev := rv_mapr hRV exx
        have ebx : blks (GH.box b :: ex) = b :: blks ex := rfl
        rw [ebx] at hn2 hn3 hnX hFm hnew hex hbe
        have hdrop : ∃ o' rs, res.2.drop os.length = o' :: rs := by
          cases hd : res.2.drop os.length with
          | nil => rw [hd] at BX; cases BX
          | cons o' rs => exact ⟨o', rs, rfl⟩
        obtain ⟨o', rs, hd⟩ := hdrop
        rw [hd] at BX
        have hget : nthO res.2 hs.length = o' := by
          unfold nthO
          rw [List.getD_eq_getElem?_getD, ← hl, hosl]
          have := congrArg (fun l => l[0]?) hd
          simp only [List.getElem?_drop, Nat.add_zero, List.getElem?_cons_zero] at this
          rw [this]; rfl
        rw [hget] at hes
        have eo := gMap_some hes
        subst eo
        cases BX with
        | @cons _ _ fx _ _ fs hB hBt =>
          cases hB with
          | map hh hnp hm =>
            obtain ⟨fr4, g4, h, S4, ep4, hb4, hi4⟩ := hback h
            obtain ⟨hfree, h⟩ := lay_some h
            have hbx4 : ∀ h', (g4.rho h').blk ≠ some b := fun h' e' => by
              rcases hb4 h' b e' with y | y
              · exact hnX b (by simp) h' y
              · exact hn3 b (by simp [y]) b (by simp) rfl
            obtain ⟨S6, A6⟩ := adopt S4 (by simp) hfree (.map es) (.box b) [b] (by simp) (fun x e' => by cases e'; simp) (fun x e' => by cases e'; exact ⟨heap_lt hh, hbx4⟩)
              (fun L => ⟨b, _, _, setR_self, hh, by rw [show (g4.setR (.loc (o.dst.getD 0) 0) (.box b)).prot = g4.prot from rfl, ep4]; exact hnp, hm⟩)
            refine good_put h S6 (by rw [ev]; exact .mapr setR_self) (hFm _ ?_ (fun h' x e' => ?_) fun i => ?_)
            · exact A6.prot.trans ep4
            · rcases A6.blk h' x e' with y | y
              · rcases hb4 h' x y with u | u
                · exact .inl u
                · exact .inr (by simp [u])
              · simp at y; subst y; exact .inr (by simp)
            · exact (A6.imp i).trans (hi4 i)
    · obtain ⟨ms, b, h, hp, hm⟩ : ∃ ms b, (backO (nmB (o.dst.getD 0)) hs ns 0 { sl := fr2.sl, ob := fgtOb hs ns fr2.ob } fun fr => layA (nmR (o.dst.getD 0)) ms 0 fr fun ms fr => k (fr.finish o.dst (unres ms b))) = some r ∧
          ms.all MV.plV = true ∧ ((b = true ∧ res.1 = .tup ms) ∨ (b = false ∧ ms = [res.1])) := by
        split at h
        · obtain ⟨x, hx, h⟩ := bnd_some h
          exact ⟨[.ownK x], false, h, by simp [MV.plV, MV.pl], .inr ⟨rfl, by rw [gOwnK_some hx]⟩⟩
        · exact resS_eq h
      obtain ⟨vs, hvs, hun⟩ := resR_apart hR hm hp
      obtain ⟨fr4, g4, h, S4, ep4, hb4, hi4⟩ := hback h
      obtain ⟨ms', fr5, g5, h, S5, A5, hr5⟩ := layA_ok (nm := nmR (o.dst.getD 0)) (by simp [nmR]) ms h S4 (hvs.plain hp ep4) hna (fun x hx h' e' => by
        rcases hb4 h' x e' with y | y
        · exact hnA x hx h' y
        · exact hao x hx x (by simp [y]) rfl)
      refine good_put h S5 (hun hr5) (hFm _ (A5.prot.trans ep4) (fun h' x e' => ?_) fun i => (A5.imp i).trans (hi4 i))
      rcases A5.blk h' x e' with y | y
      · rcases hb4 h' x y with u | u
        · exact .inl u
        · exact .inr (by simp [u])
      · exact .inr (by simp [y])
/-- calls of functions -/
theorem call_ok (hrun : RunOk E.P run) {o : Oper} {Q : Exit → Act → World → Prop} {c : Call} {x : Operand} (ho : o.op = .call c) (hc : c.callee = .value x) : Ask E run o Q := by
  intro R r k fr g a w h S
  unfold evOp at h
  simp only [ho, hc] at h
  split at h
  case h_2 => simp at h
  rename_i gf caps ex
  have hx := opnd_rv S x
  rw [ex] at hx
  obtain ⟨vs, ev, hl, hr⟩ := rv_fn hx
  have hargs : Rl (RV g (cur fr.ob) w) (c.args.map a.eval ++ vs).toList (c.args.toList.map (opnd fr) ++ caps) := by
    rw [Array.toList_append, Array.toList_map]
    refine Rl.append ?_ (rl_of _ _ (by simpa using hl) fun j v m h1 h2 => hr j v m (by simpa using h1) h2)
    generalize c.args.toList = l
    induction l with
    | nil => exact .nil
    | cons y l ih => exact .cons (opnd_rv S y) ih
  have hU := evCall_ok hrun h S hargs
  have hex : (execOp a.eval o).run E.P w = (callFunc gf (c.args.map a.eval ++ vs)).run E.P w := by
    unfold execOp; rw [ho]
    simp [resolve, hc, ev, Deferred.ofValue, invoke]
  rw [hex]
  unfold UponF at hU
  split at hU
  · rename_i e; rw [e]
    exact hU.mono fun e w'' ⟨v, he, hg⟩ => by subst he; exact hg
  · rename_i e; rw [e]; exact hU
  · exact hU.elim
end
end Kw
namespace Kw
set_option linter.unusedVariables false
set_option linter.unusedSimpArgs false
set_option linter.unusedSectionVars false
open Go
variable [Gl]
section
variable {P : Program} {g : G} {cu : H → Int} {w : World}
def VRel (P : Program) (g : G) (cu : H → Int) (w : World) (t : TypeId) (v : Value) (xs : List MV) : Prop :=
  (isAgg P t = true → ∃ vs : Array Value, v = .agg vs ∧ Rl (RV g cu w) vs.toList xs) ∧ (isAgg P t = false → ∀ m, xs = [m] → RV g cu w v m)
theorem Rl.drop {vs : List Value} {ms : List MV} (h : Rl (RV g cu w) vs ms) (n : Nat) : Rl (RV g cu w) (vs.drop n) (ms.drop n) :=
  rl_of _ _ (by simp [h.len]) fun j v m h1 h2 => h.at (n + j) v m (by rw [List.getElem?_drop] at h1; exact h1) (by rw [List.getElem?_drop] at h2; exact h2)
theorem Rl.take {vs : List Value} {ms : List MV} (h : Rl (RV g cu w) vs ms) (n : Nat) : Rl (RV g cu w) (vs.take n) (ms.take n) :=
  rl_of _ _ (by simp [h.len]) fun j v m h1 h2 => by
    rw [List.getElem?_take] at h1 h2
    split at h1
    · rename_i hj; rw [if_pos hj] at h2; exact h.at j v m h1 h2
    · cases h1
theorem part_ok {vs : Array Value} {xs : List MV} (hr : Rl (RV g cu w) vs.toList xs) {t : TypeId} {d : TypeDesc} (hu : P.underlying t = some d) (off : Nat) (hn : isAgg P t = false → ∃ m, (xs.drop off).take (tsize P t) = [m]) :
    ∃ v, (part t vs off).run P w = .ok v w ∧ VRel P g cu w t v ((xs.drop off).take (tsize P t)) := by
  obtain ⟨i, hi⟩ := und_info hu
  unfold part
  by_cases ha : isAgg P t = true
  · refine ⟨.agg (vs.extract off (off + tsize P t)), ?_, fun _ => ⟨_, rfl, ?_⟩, fun e => by rw [ha] at e; cases e⟩
    · simp [run_isAgg hu, ha, run_size hi]
    · have e : (vs.extract off (off + tsize P t)).toList = (vs.toList.drop off).take (tsize P t) := by
        simp [List.extract_eq_take_drop]
      rw [e]; exact (hr.drop off).take _
  · have ha : isAgg P t = false := by simpa using ha
    obtain ⟨m, hm⟩ := hn ha
    have hr2 := (hr.drop off).take (tsize P t)
    rw [hm] at hr2 ⊢
    cases hd : vs[off]? with
    | none =>
      exfalso
      have : vs.toList.drop off = [] := List.drop_eq_nil_of_le (by
        rw [Array.getElem?_eq_none_iff] at hd; simpa using hd)
      rw [this] at hr2
      have := hr2.len
      simp at this
    | some v =>
      refine ⟨v, by simp [run_isAgg hu, ha, hd], fun e => (by rw [ha] at e; cases e), fun _ m' e => ?_⟩
      cases e
      have h0 : vs.toList.drop off = v :: vs.toList.drop (off + 1) := by
        obtain ⟨hlt, e⟩ := Array.getElem?_eq_some_iff.1 hd
        rw [List.drop_eq_getElem_cons (by simpa using hlt)]
        simp [e]
      rw [h0] at hr2
      have hl := hr2.len
      cases hs : tsize P t with
      | zero => rw [hs] at hl; simp at hl
      | succ n =>
        rw [hs, List.take_succ_cons] at hr2
        cases hr2 with
        | cons h _ => exact h
theorem eqF_ok {rec : TypeId → List MV → List MV → Option Bool} {D : Nat} {vs ws : Array Value} {xs ys : List MV} (hx : Rl (RV g cu w) vs.toList xs) (hy : Rl (RV g cu w) ws.toList ys)
    (hrec : ∀ t xs ys b, rec t xs ys = some b → (∃ d, P.underlying t = some d) ∧ (isAgg P t = false → (∃ m, xs = [m]) ∧ ∃ m, ys = [m]) ∧ ∀ v1 v2, VRel P g cu w t v1 xs → VRel P g cu w t v2 ys → (Op.equalIn D t v1 v2).run P w = .ok b w) :
    ∀ (fs : List Field) (b : Bool), eqF P rec xs ys fs = some b → (Op.eqFields D vs ws fs).run P w = .ok b w
  | [], b, h => by simp only [eqF] at h; cases h; simp [Op.eqFields]
  | f :: fs, b, h => by
    unfold eqF at h
    unfold Op.eqFields
    split at h
    · rename_i hn
      obtain ⟨b1, h1, h⟩ := bnd_some h
      obtain ⟨b2, h2, h⟩ := bnd_some h
      cases h
      obtain ⟨⟨d, hu⟩, hone, heq⟩ := hrec _ _ _ _ h1
      obtain ⟨v1, p1, r1⟩ := part_ok hx hu f.offset fun e => (hone e).1
      obtain ⟨v2, p2, r2⟩ := part_ok hy hu f.offset fun e => (hone e).2
      have := eqF_ok hx hy hrec fs b2 h2
      rw [if_pos hn]
      simp only [Sem.run_bind, p1, p2, Result.andThen_ok, heq v1 v2 r1 r2]
      cases b1
      · simp [bAnd]
      · simpa [bAnd] using this
    · rename_i hn
      rw [if_neg hn]
      exact eqF_ok hx hy hrec fs b h
theorem eqT_ok : ∀ (d : Nat) (n : Nat) (t : TypeId) (xs ys : List MV) (b : Bool), eqT P d t xs ys = some b →
    (∃ d, P.underlying t = some d) ∧ (isAgg P t = false → (∃ m, xs = [m]) ∧ ∃ m, ys = [m]) ∧ ∀ v1 v2, VRel P g cu w t v1 xs → VRel P g cu w t v2 ys → (Op.equalIn (n + d) t v1 v2).run P w = .ok b w
  | 0, n, t, xs, ys, b, h => by simp [eqT] at h
  | d + 1, n, t, xs, ys, b, h => by
    unfold eqT at h
    split at h
    · rename_i hu
      have ha : isAgg P t = false := by unfold isAgg; rw [hu]
      split at h
      · cases h
        refine ⟨⟨_, hu⟩, fun _ => ⟨⟨_, rfl⟩, ⟨_, rfl⟩⟩, fun v1 v2 h1 h2 => ?_⟩
        rw [rv_bool (h1.2 ha _ rfl), rv_bool (h2.2 ha _ rfl)]
        exact run_equalIn_bool w (n + d) t _ _ hu
      · cases h
    · rename_i hu
      have ha : isAgg P t = false := by unfold isAgg; rw [hu]
      split at h
      · split at h
        · rename_i e
          subst e
          cases h
          refine ⟨⟨_, hu⟩, fun _ => ⟨⟨_, rfl⟩, ⟨_, rfl⟩⟩, fun v1 v2 h1 h2 => ?_⟩
          rw [rv_int (h1.2 ha _ rfl), rv_int (h2.2 ha _ rfl)]
          exact run_equalIn_int w (n + d) t _ _ _ _ hu
        · cases h
      · cases h
    · rename_i hu
      have ha : isAgg P t = false := by unfold isAgg; rw [hu]
      split at h
      · cases h
        refine ⟨⟨_, hu⟩, fun _ => ⟨⟨_, rfl⟩, ⟨_, rfl⟩⟩, fun v1 v2 h1 h2 => ?_⟩
        rw [rv_str (h1.2 ha _ rfl), rv_str (h2.2 ha _ rfl)]
        exact run_equalIn_string w (n + d) t _ _ hu
      · cases h
    · rename_i fs hu
      have ha : isAgg P t = true := by unfold isAgg; rw [hu]
      split at h
      · cases h
      · rename_i hst
        refine ⟨⟨_, hu⟩, fun e => (by rw [ha] at e; cases e), fun v1 v2 h1 h2 => ?_⟩
        obtain ⟨vs, e1, r1⟩ := h1.1 ha
        obtain ⟨ws, e2, r2⟩ := h2.1 ha
        have hf : P.fieldsOf t = fs := by unfold Program.fieldsOf; rw [hu]
        rw [e1, e2]
        have := run_equalIn_struct w (n + d) t vs ws (by rw [hf]; exact hu) (by simpa using hst)
        rw [show n + (d + 1) = (n + d) + 1 from rfl, this, hf]
        exact eqF_ok r1 r2 (fun t xs ys b h => eqT_ok d n t xs ys b h) fs.toList b h
    · cases h
theorem seq_ok {E : Env} {run : Run} {o : Oper} {Q : Exit → Act → World → Prop} {op : BinOp} {t yt : TypeId} {x y : Operand} (ho : o.op = .binOp op t x y yt) (ha : isAgg E.P t = true) : Ask E run o Q := by
  intro R r k fr g a w h S
  unfold evOp at h
  simp only [ho] at h
  rw [if_pos ha] at h
  split at h
  case h_2 => simp at h
  rename_i xs ys ex ey
  split at h
  · simp at h
  rename_i hg
  obtain ⟨b, hb, h⟩ := bnd_some h
  have hx := opnd_rv S x
  have hy := opnd_rv S y
  rw [ex] at hx; rw [ey] at hy
  obtain ⟨vs, e1, l1, r1⟩ := rv_agg hx
  obtain ⟨ws, e2, l2, r2⟩ := rv_agg hy
  have q1 : Rl (RV g (cur fr.ob) w) vs.toList xs := rl_of _ _ (by simpa using l1) fun j v m h1 h2 => r1 j v m (by simpa using h1) h2
  have q2 : Rl (RV g (cur fr.ob) w) ws.toList ys := rl_of _ _ (by simpa using l2) fun j v m h1 h2 => r2 j v m (by simpa using h1) h2
  obtain ⟨_, _, heq⟩ := eqT_ok (g := g) (cu := cur fr.ob) (w := w) 8 9992 t xs ys b hb
  have he := heq (.agg vs) (.agg ws) ⟨fun _ => ⟨_, rfl, q1⟩, fun e => (by rw [ha] at e; cases e)⟩ ⟨fun _ => ⟨_, rfl, q2⟩, fun e => (by rw [ha] at e; cases e)⟩
  have hgd := run_eqGuard_agg (P := E.P) w op t x y vs ws (by simpa using hg)
  split at h
  · refine up_value (v := .bool b) ?_ h S (.sv (.bool _)) (Fm.refl _ _)
    have := run_eql_struct (P := E.P) w t vs ws
    rw [he] at this
    unfold execOp; rw [ho]; generalize a.eval = ρ at *
    simp [e1, e2, hgd, this]
  · refine up_value (v := .bool (!b)) ?_ h S (.sv (.bool _)) (Fm.refl _ _)
    have := run_neq_struct (P := E.P) w t vs ws
    rw [he] at this
    unfold execOp; rw [ho]; generalize a.eval = ρ at *
    simp [e1, e2, hgd, this]
  · simp at h
end
end Kw
