import Derived.Test.YtphammifhilpdaaDoorD06
import Derived.Shelf.SlicesE.Clone
import Derived.Test.YtphammifhilpdaaDoorD01
import Derived.Laws.Strings
import Derived.IntWalk
import Derived.Lib.Split
import Derived.Lib.IndexBytes
import Derived.Lib.SplitLaws
import Derived.Lib.Atoi
import Derived.Lib.Join
import Derived.Lib.AtoiAllCases
namespace Kw
set_option linter.unusedVariables false
set_option linter.unusedSimpArgs false
set_option linter.unusedSectionVars false
open Go
variable [Gl]
section
variable {E : Env} {run : Run} {all : Array Oper}
theorem wrt_tch {p : Fp} {h : H} (x : p.wrt h) : p.tch h := x.elim (fun x => .inr (.inl x)) fun x => .inr (.inr x)
def Ext (fr fr' : Fr) : Prop := fr.sl = fr'.sl ∧ ∀ h, AgH fr fr' h
theorem Ext.refl (fr : Fr) : Ext fr fr := ⟨rfl, fun _ => AgH.refl _ _⟩
theorem Ext.trans {a b c : Fr} (x : Ext a b) (y : Ext b c) : Ext a c := ⟨x.1.trans y.1, fun h => (x.2 h).trans (y.2 h)⟩
theorem Ext.symm {a b : Fr} (x : Ext a b) : Ext b a := ⟨x.1.symm, fun h => (x.2 h).symm⟩
def WantsIs (all : Array Oper) (o : Oper) (fr : Fr) (b : Bool) : Prop :=
  match o.guard with
  | none => b = true
  | some (j, want) => ∃ d, (all[j]?).bind (·.dst) = some d ∧ ((skipped (fr.get d) = true ∧ b = false) ∨ ∃ v, fr.get d = .bool v ∧ b = (v == want))
inductive Stp (E : Env) (run : Run) (all : Array Oper) (o : Oper) (fr fr1 : Fr) (p : Fp) : Prop
  | ex (hw : WantsIs all o fr true) (l : LocOp E run o fr fr1) (hp : p = fp E o fr)
  | sk (hw : WantsIs all o fr false) (h : fr1 = fr.finish o.dst (.tup [])) (hp : p = ⟨[], [], none⟩)
theorem wants_loc {o : Oper} {fr fr' : Fr} {b : Bool} (h : WantsIs all o fr b) (ht : ∀ t ∈ o.looksAt all, fr'.get t = fr.get t) : WantsIs all o fr' b := by
  unfold WantsIs at *
  split
  · rename_i hg; rw [hg] at h; exact h
  · rename_i j want hg
    rw [hg] at h
    obtain ⟨d, hd, h⟩ := h
    have e := ht d (by unfold Oper.looksAt; rw [hg]; simp only [hd]; simp)
    refine ⟨d, hd, ?_⟩
    rw [e]
    exact h
theorem opnds_loc {o : Oper} {fr fr' : Fr} (ht : ∀ t ∈ o.looksAt all, fr'.get t = fr.get t) : ∀ x ∈ o.op.operands.toList, opnd fr' x = opnd fr x := by
  intro x hx
  cases x with
  | tmp t => exact ht t (List.mem_append_left _ (List.mem_filterMap.2 ⟨_, hx, rfl⟩))
  | const v => rfl
  | global k => rfl
  | func f => rfl
theorem LocOp.move {o : Oper} {fr fr1 fr' fr1' : Fr} {m : MV} (C : Cond E o fr fr') (hf : fp E o fr' = fp E o fr) (e1 : ∀ (R : Type) (k' : Fr → Option R), evOp E run o fr' k' = k' fr1') (a1 : ∀ h, (fp E o fr).tch h → AgH fr1 fr1' h) (w1 : ∀ h, ¬ (fp E o fr).wrt h → AgH fr' fr1' h) (s1 : fr1'.sl = setD fr'.sl o.dst m)
    (hl : ∀ fr', Cond E o fr fr' → ∃ fr1', (∀ (R : Type) (k' : Fr → Option R), evOp E run o fr' k' = k' fr1') ∧ fp E o fr' = fp E o fr ∧ (∀ h, (fp E o fr).tch h → AgH fr1 fr1' h) ∧ (∀ h, ¬ (fp E o fr).wrt h → AgH fr' fr1' h) ∧ fr1'.sl = setD fr'.sl o.dst m) : LocOp E run o fr' fr1' := by
  refine ⟨m, s1, fun h hh => w1 h (by rw [← hf]; exact hh), e1, fun fr2 C2 => ?_⟩
  obtain ⟨fr3, e3, f3, a3, w3, s3⟩ := hl fr2 ⟨fun x hx => (C2.op x hx).trans (C.op x hx), fun h hh => (C.ag h hh).trans (C2.ag h (by rw [hf]; exact hh))⟩
  rw [hf]
  exact ⟨fr3, e3, f3, fun h hh => (a1 h hh).symm.trans (a3 h hh), w3, s3⟩
theorem Stp.loc {o : Oper} {fr fr1 : Fr} {p : Fp} (s : Stp E run all o fr fr1 p) : ∃ m, fr1.sl = setD fr.sl o.dst m ∧ (∀ h, ¬ p.wrt h → AgH fr fr1 h) ∧
    ∀ fr', (∀ t ∈ o.looksAt all, fr'.get t = fr.get t) → (∀ h, p.tch h → AgH fr fr' h) → ∃ fr1', Stp E run all o fr' fr1' p ∧ (∀ h, p.tch h → AgH fr1 fr1' h) ∧ (∀ h, ¬ p.wrt h → AgH fr' fr1' h) ∧ fr1'.sl = setD fr'.sl o.dst m := by
  cases s with
  | ex hw l hp =>
    subst hp
    obtain ⟨m, hs, hsame, hev, hl⟩ := l
    refine ⟨m, hs, hsame, fun fr' ht ha => ?_⟩
    have C : Cond E o fr fr' := ⟨opnds_loc ht, ha⟩
    obtain ⟨fr1', e1, f1, a1, w1, s1⟩ := hl fr' C
    exact ⟨fr1', .ex (wants_loc hw ht) (LocOp.move C f1 e1 a1 w1 s1 hl) f1.symm, a1, w1, s1⟩
  | sk hw h hp =>
    subst hp; subst h
    have hno : ∀ h, ¬ (⟨[], [], none⟩ : Fp).tch h := fun h hh => by
      rcases hh with x | x | ⟨d, j, x, _⟩
      · simp at x
      · simp at x
      · cases x
    refine ⟨.tup [], finish_sl _ _ _, fun h _ => ag_finish' (AgH.refl _ _) _ _, fun fr' ht ha => ⟨fr'.finish o.dst (.tup []), .sk (wants_loc hw ht) rfl rfl, fun h hh => absurd hh (hno h), fun h _ => ag_finish' (AgH.refl _ _) _ _, finish_sl _ _ _⟩⟩
theorem get_setD (sl : List MV) (d : Option Tmp) (m : MV) (t : Nat) (h : d ≠ some t) : (setD sl d m)[t]? = sl[t]? := by
  cases d with
  | none => rfl
  | some d => exact List.getElem?_set_ne (fun e => h (by rw [e]))
theorem get_of {fr : Fr} {t : Nat} : fr.get t = (fr.sl[t]?).getD .undef := List.getD_eq_getElem?_getD
/-- what does not see each other may change places -/
theorem diamond {oi oj : Oper} {fr fr1 fr2 : Fr} {p q : Fp} (si : Stp E run all oi fr fr1 p) (sj : Stp E run all oj fr1 fr2 q) (ht : oi.apart all oj = true) (hm : ∀ h, (p.wrt h → ¬ q.tch h) ∧ (q.wrt h → ¬ p.tch h)) :
    ∃ fr1' fr2', Stp E run all oj fr fr1' q ∧ Stp E run all oi fr1' fr2' p ∧ Ext fr2 fr2' := by
  obtain ⟨h1, h2, h3⟩ := Oper.apart_spec ht
  obtain ⟨mi, hsi, hwi, hli⟩ := si.loc
  obtain ⟨mj, hsj, hwj, hlj⟩ := sj.loc
  obtain ⟨fr1', sj', aj, wj, tj⟩ := hlj fr (fun t htt => by
      rw [get_of, get_of, hsi, get_setD _ _ _ _ fun e => h1 t e htt]) (fun h hh => (hwi h fun hw => (hm h).1 hw hh).symm)
  obtain ⟨fr2', si', ai, wi, ti⟩ := hli fr1' (fun t htt => by
      rw [get_of, get_of, tj, get_setD _ _ _ _ fun e => h3 t e htt]) (fun h hh => wj h fun hw => (hm h).2 hw hh)
  refine ⟨fr1', fr2', sj', si', ?_, fun h => ?_⟩
  · rw [hsj, hsi, ti, tj]
    cases ei : oi.dst with
    | none => rfl
    | some d =>
      cases ej : oj.dst with
      | none => rfl
      | some d' =>
        have hne : d ≠ d' := fun e => h2 d ei (by rw [ej, e])
        exact List.set_comm _ _ hne
  · by_cases hwp : p.wrt h
    · have hnq : ¬ q.wrt h := fun hq => (hm h).1 hwp (wrt_tch hq)
      exact (hwj h hnq).symm.trans (ai h (wrt_tch hwp))
    · by_cases hwq : q.wrt h
      · exact (aj h (wrt_tch hwq)).trans (wi h hwp)
      · exact (((hwj h hwq).symm.trans (hwi h hwp).symm).trans (wj h hwq)).trans (wi h hwp)
/-- edges one behind the other -/
inductive Path (all : Array Oper) : Nat → Nat → Prop
  | one {i j : Nat} {oj : Oper} {e : Edge} (hj : all[j]? = some oj) (he : e ∈ oj.after) (hb : Region.binds .any e = true) (h : e.on = i) : Path all i j
  | more {i k j : Nat} {oj : Oper} {e : Edge} (p : Path all i k) (hj : all[j]? = some oj) (he : e ∈ oj.after) (hb : Region.binds .any e = true) (h : e.on = k) : Path all i j
def Cl (all : Array Oper) (listed : Array Bool) : Prop := ∀ (k : Nat) (ok : Oper), all[k]? = some ok → listed.getD k false = true → ∀ e ∈ ok.after, Region.binds .any e = true → listed.getD e.on false = true
theorem Cl.path {listed : Array Bool} (c : Cl all listed) {i j : Nat} (p : Path all i j) (hj : listed.getD j false = true) : listed.getD i false = true := by
  induction p with
  | one h1 he hb h => exact h ▸ c _ _ h1 hj _ he hb
  | more p h1 he hb h ih => exact ih (h ▸ c _ _ h1 hj _ he hb)
theorem Cl.ready {listed : Array Bool} (c : Cl all listed) {i j : Nat} (p : Path all i j) (hj : j ∈ Region.ready .any all listed) : listed.getD i false = true := by
  obtain ⟨_, o, ho, hall⟩ := mem_ready.1 hj
  cases p with
  | one h1 he hb h =>
    rw [ho] at h1; cases h1
    exact h ▸ hall _ he hb
  | more p h1 he hb h =>
    rw [ho] at h1; cases h1
    exact c.path p (h ▸ hall _ he hb)
theorem Cl.add {listed : Array Bool} (c : Cl all listed) {j : Nat} (hj : j ∈ Region.ready .any all listed) : Cl all (listed.setIfInBounds j true) := by
  intro k ok hk hl e he hb
  obtain ⟨_, o, ho, hall⟩ := mem_ready.1 hj
  by_cases ek : j = k
  · subst ek
    rw [ho] at hk; cases hk
    exact getD_set_true (hall e he hb)
  · rw [getD_set_ne false ek] at hl
    exact getD_set_true (c k ok hk hl e he hb)
variable {T : Nat → Fp} {e : Fr}
def AnyF (E : Env) (run : Run) (all : Array Oper) (T : Nat → Fp) (e : Fr) : Nat → Array Bool → Fr → Prop
  | 0, listed, fr => Region.ready .any all listed = [] ∧ Ext fr e
  | n + 1, listed, fr => (Region.ready .any all listed = [] → Ext fr e) ∧ ∀ i ∈ Region.ready .any all listed, ∃ o, all[i]? = some o ∧ ∃ fr1, Stp E run all o fr fr1 (T i) ∧ AnyF E run all T e n (listed.setIfInBounds i true) fr1
theorem AnyF.ext : ∀ {n : Nat} {listed : Array Bool} {fr fr' : Fr}, AnyF E run all T e n listed fr → Ext fr fr' → AnyF E run all T e n listed fr'
  | 0, listed, fr, fr', h, x => ⟨h.1, x.symm.trans h.2⟩
  | n + 1, listed, fr, fr', h, x => ⟨fun h0 => x.symm.trans (h.1 h0), fun i hi => by
    obtain ⟨o, ho, fr1, s, h'⟩ := h.2 i hi
    obtain ⟨m, hs, hw, hl⟩ := s.loc
    obtain ⟨fr1', s', a1, w1, t1⟩ := hl fr' (fun t _ => by rw [get_of, get_of, x.1]) fun h _ => x.2 h
    refine ⟨o, ho, fr1', s', AnyF.ext h' ⟨by rw [hs, t1, x.1], fun h => ?_⟩⟩
    by_cases hp : (T i).wrt h
    · exact a1 h (wrt_tch hp)
    · exact ((hw h hp).symm.trans (x.2 h)).trans (w1 h hp)⟩
theorem anyF_first {i : Nat} {oi : Oper} (hi : all[i]? = some oi) : ∀ (n : Nat) (listed : Array Bool) (fr fr1 : Fr), Cl all listed →
    (∀ (j : Nat) (oj : Oper), all[j]? = some oj → j ≠ i → listed.getD j true = false → (∀ e ∈ oj.after, Region.binds .any e = true → e.on ≠ i) → ¬ Path all i j → oi.apart all oj = true ∧ ∀ h, ((T i).wrt h → ¬ (T j).tch h) ∧ ((T j).wrt h → ¬ (T i).tch h)) →
    i ∈ Region.ready .any all listed → Stp E run all oi fr fr1 (T i) → AnyF E run all T e n (listed.setIfInBounds i true) fr1 → AnyF E run all T e (n + 1) listed fr := by
  intro n
  induction n with
  | zero =>
    intro listed fr fr1 _ _ hr hy H
    refine ⟨fun h => (by rw [h] at hr; cases hr), fun j hj => ?_⟩
    by_cases hji : j = i
    · subst hji; exact ⟨oi, hi, fr1, hy, H⟩
    · have := ready_mono hj hji
      rw [H.1] at this
      cases this
  | succ n ih =>
    intro listed fr fr1 hcl hfree hr hy H
    refine ⟨fun h => (by rw [h] at hr; cases hr), fun j hj => ?_⟩
    by_cases hji : j = i
    · subst hji; exact ⟨oi, hi, fr1, hy, H⟩
    · obtain ⟨oj, hoj, fr2, sj, H'⟩ := H.2 j (ready_mono hj hji)
      obtain ⟨hjun, oj', hoj', hall⟩ := mem_ready.1 hj
      rw [hoj] at hoj'
      cases hoj'
      have hnot : ∀ e ∈ oj.after, Region.binds .any e = true → e.on ≠ i := fun e he hb heq => by
        have h1 := hall e he hb
        have h0 := (mem_ready.1 hr).1
        rw [heq] at h1
        rcases Nat.lt_or_ge i listed.size with h' | h'
        · simp [h'] at h0 h1; rw [h0] at h1; cases h1
        · simp [Array.getElem?_eq_none h'] at h1
      have hnp : ¬ Path all i j := fun p => by
        have h1 := hcl.ready p hj
        have h0 := (mem_ready.1 hr).1
        rcases Nat.lt_or_ge i listed.size with h' | h'
        · simp [h'] at h0 h1; rw [h0] at h1; cases h1
        · simp [Array.getElem?_eq_none h'] at h1
      obtain ⟨hap, hmem⟩ := hfree j oj hoj hji hjun hnot hnp
      obtain ⟨fr1', fr2', sj', si', hx⟩ := diamond hy sj hap hmem
      refine ⟨oj, hoj, fr1', sj', ih _ fr1' fr2' (hcl.add hj) (fun k ok hk hki hun hno hnp => hfree k ok hk hki ?_ hno hnp) (ready_mono hr (Ne.symm hji)) si' ?_⟩
      · by_cases hjk : j = k
        · subst hjk; exact hjun
        · rw [getD_set_ne true hjk] at hun; exact hun
      · rw [Array.setIfInBounds_comm _ _ hji]
        exact H'.ext hx
inductive Chain (E : Env) (run : Run) (all : Array Oper) : List Oper → Fr → List Fp → Fr → Prop
  | nil (fr : Fr) : Chain E run all [] fr [] fr
  | cons {o : Oper} {os : List Oper} {fr fr1 e : Fr} {p : Fp} {ps : List Fp} (s : Stp E run all o fr fr1 p) (t : Chain E run all os fr1 ps e) : Chain E run all (o :: os) fr (p :: ps) e
theorem anyF_lex : ∀ (l : List Oper) (ps : List Fp) (k : Nat) (listed : Array Bool) (fr : Fr), (∀ j, l[j]? = all[k + j]?) → (∀ j p, ps[j]? = some p → T (k + j) = p) → Region.lexFrom .any all l.length k listed = true → (∀ j, j < k → listed.getD j true = true) → listed.size = all.size → Cl all listed →
    (∀ (i j : Nat) (oi oj : Oper), all[i]? = some oi → all[j]? = some oj → i < j → ¬ Path all i j → ∀ h, ((T i).wrt h → ¬ (T j).tch h) ∧ ((T j).wrt h → ¬ (T i).tch h)) →
    Chain E run all l fr ps e → AnyF E run all T e l.length listed fr
  | [], ps, k, listed, fr, _, _, hB, _, _, _, _, h => by
    cases h
    exact ⟨by simpa [Region.lexFrom] using hB, Ext.refl _⟩
  | o :: l, ps, k, listed, fr, hl, hT, hB, hk, hsz, hcl, hm, h => by
    cases h with
    | @cons _ _ _ fr1 _ p ps s t =>
      have h0 : all[k]? = some o := by simpa using (hl 0).symm
      simp only [List.length_cons, Region.lexFrom, Bool.and_eq_true] at hB
      obtain ⟨⟨hr, hf⟩, hB'⟩ := hB
      have hTk : T k = p := hT 0 p (by simp)
      have hklt : k < all.size := (Array.getElem?_eq_some_iff.1 h0).1
      refine anyF_first h0 l.length listed fr fr1 hcl (fun j oj hj hne hun hno hnp => ⟨Region.free_spec h0 hf j oj hj hne hun hno, ?_⟩) (by simpa using hr) (by rw [hTk]; exact s)
        (anyF_lex l ps (k + 1) _ fr1 (fun j => by have := hl (j + 1); simpa [Nat.add_assoc, Nat.add_comm 1 j] using this) (fun j p hj => by have := hT (j + 1) p (by simpa using hj); rw [← this]; congr 1; omega) hB' (fun j hj => ?_) (by simpa using hsz) (hcl.add (by simpa using hr)) hm t)
      · have hjk : k < j := by
          rcases Nat.lt_trichotomy j k with x | x | x
          · rw [hk j x] at hun; cases hun
          · exact absurd x hne
          · exact x
        exact hm k j o oj h0 hj hjk hnp
      · by_cases e : k = j
        · subst e
          have : k < listed.size := by omega
          simp [this]
        · rw [getD_set_ne true e]; exact hk j (by omega)
end
end Kw
namespace Kw
set_option linter.unusedVariables false
set_option linter.unusedSimpArgs false
set_option linter.unusedSectionVars false
open Go
variable [Gl]
section
variable {E : Env} {run : Run} {all : Array Oper}
theorem sim_ext {fr fr' : Fr} {g : G} {tmps : Array Value} {w : World} (S : Sim fr g tmps w) (x : Ext fr fr') (hk : (fr'.ob.map (·.1)).Nodup) : Sim fr' g tmps w := by
  have hc : cur fr'.ob = cur fr.ob := funext fun h => by unfold cur; rw [(x.2 h).1]
  refine ⟨by rw [← x.1]; exact S.size, fun t v m h1 h2 => by rw [hc]; exact S.slot t v m h1 (by rw [x.1]; exact h2), hk, fun h => (S.o.abs h).trans (not_congr (x.2 h).2), fun h o hm => ?_, S.o.inj, S.o.lt, S.o.plt, S.o.gl⟩
  have hm' : h ∈ fr.ob.map (·.1) := (x.2 h).2.2 (List.mem_map_of_mem (f := (·.1)) hm)
  have := S.o.obj h _ (mem_of_look hm')
  rw [(x.2 h).1, look_of_mem hk hm] at this
  rw [hc]; exact this
theorem wants_sim {o : Oper} {fr : Fr} {g : G} {tmps : Array Value} {w : World} (S : Sim fr g tmps w) {b : Bool} (h : WantsIs all o fr b) : Region.wanted o (yielded all tmps) = b := by
  unfold WantsIs at h
  unfold Region.wanted
  split at h
  · rename_i hg; rw [hg]; exact h.symm
  · rename_i j want hg
    obtain ⟨d, hd, ⟨hs, e⟩ | ⟨v, hv, e⟩⟩ := h
    · rw [hg]
      have ht := sim_skip S hs
      have hy : yielded all tmps j = none := by unfold yielded; rw [hd]; simp [ht, undef]
      simp only [hy]
      rw [e]; rfl
    rw [hg]
    have ht := sim_guard S hv
    have hy : yielded all tmps j = some v := by unfold yielded; rw [hd]; simp [ht]
    simp only [hy]
    rw [e]; cases v <;> cases want <;> rfl
theorem anyF_wp {T : Nat → Fp} {e : Fr} (hke : (e.ob.map (·.1)).Nodup) {Q : Exit → Act → World → Prop} (hask : ∀ (i : Nat) (o : Oper), all[i]? = some o → Ask E run o Q) : ∀ (n : Nat) {listed : Array Bool} {fr : Fr} {g : G} {a : Act} {w : World},
    AnyF E run all T e n listed fr → Sim fr g a.tmps w → (∀ a' w', a'.defers = a.defers → (∃ g', Sim e g' a'.tmps w' ∧ Fm g w g' w') → Q .normal a' w') → wpAny E.P .any all Q n listed a w
  | 0, listed, fr, g, a, w, h, S, hQ => ⟨h.1, hQ a w rfl ⟨g, sim_ext S h.2 hke, Fm.refl _ _⟩⟩
  | n + 1, listed, fr, g, a, w, h, S, hQ => by
    refine ⟨fun h0 => hQ a w rfl ⟨g, sim_ext S (h.1 h0) hke, Fm.refl _ _⟩, fun i hi => ?_⟩
    obtain ⟨o, ho, fr1, s, h'⟩ := h.2 i hi
    unfold wpOp
    simp only [ho]
    cases s with
    | ex hw l hp =>
      rw [wants_sim S hw]
      simp only [if_true]
      obtain ⟨m, _, _, hev, _⟩ := l
      refine .inl (Oper.wp_mono (fun a' w' hg => ?_) (hask i o ho (r := fr1) (k := some) (hev _ some) S))
      obtain ⟨hd, fr', g', hk, S', F⟩ := hg
      cases hk
      exact anyF_wp hke hask n h' S' fun a'' w'' hd' ⟨g'', S'', F'⟩ => hQ a'' w'' (hd'.trans hd) ⟨g'', S'', F.trans F'⟩
    | sk hw h1 hp =>
      rw [wants_sim S hw]
      simp only [Bool.false_eq_true, if_false]
      subst h1
      obtain ⟨hd, fr', g', hk, S', F⟩ := good_fin (k := some) (g := g) (w := w) (a := a) (dst := o.dst) (v := undef) (m := .tup []) rfl S rv_skip (Fm.refl _ _)
      cases hk
      exact anyF_wp hke hask n h' S' fun a'' w'' hd' ⟨g'', S'', F'⟩ => hQ a'' w'' (hd'.trans hd) ⟨g'', S'', F.trans F'⟩
theorem set_get {fr : Fr} {d : Nat} {m : MV} (h : fr.get d = m) (hu : m ≠ .undef) : fr.set d m = fr := by
  have hlt : d < fr.sl.length := by
    rcases Nat.lt_or_ge d fr.sl.length with h' | h'
    · exact h'
    · unfold Fr.get at h
      rw [List.getD_eq_getElem?_getD, List.getElem?_eq_none h'] at h
      exact absurd h.symm hu
  have : fr.sl.set d m = fr.sl := by
    apply List.ext_getElem?
    intro i
    by_cases e : d = i
    · subst e
      rw [List.getElem?_set_self hlt]
      unfold Fr.get at h
      rw [List.getD_eq_getElem?_getD, List.getElem?_eq_getElem hlt] at h
      rw [List.getElem?_eq_getElem hlt, ← h]; rfl
    · rw [List.getElem?_set_ne e]
  unfold Fr.set; rw [this]
theorem nodupH_ok : ∀ {l : List H}, nodupH l = true → l.Nodup
  | [], _ => .nil
  | h :: hs, e => by
    unfold nodupH at e
    simp only [Bool.and_eq_true, Bool.not_eq_true'] at e
    refine List.nodup_cons.2 ⟨fun hm => ?_, nodupH_ok e.2⟩
    rw [List.any_eq_false] at e
    exact e.1 h hm (by simp)
theorem evOpsD_chain {R : Type} {r : R} {k : Fr → Option R} : ∀ (os : List Oper) (ps : List Fp) (fr : Fr), evOpsD E run all os ps fr k = some r → ∃ qs e, Chain E run all os fr qs e ∧ k e = some r ∧ (anyApart all (ps.reverse ++ qs) = true ∧ (e.ob.map (·.1)).Nodup)
  | [], ps, fr, h => by
    unfold evOpsD at h
    split at h
    · rename_i ha
      simp only [Bool.and_eq_true] at ha
      exact ⟨[], fr, .nil fr, h, by rw [List.append_nil]; exact ha.1, nodupH_ok ha.2⟩
    · simp at h
  | o :: os, ps, fr, h => by
    unfold evOpsD at h
    have go : ∀ {fr1 : Fr} {p : Fp}, Stp E run all o fr fr1 p → evOpsD E run all os (p :: ps) fr1 k = some r → ∃ qs e, Chain E run all (o :: os) fr qs e ∧ k e = some r ∧ (anyApart all (ps.reverse ++ qs) = true ∧ (e.ob.map (·.1)).Nodup) := fun s h => by
      obtain ⟨qs, e, c, hk, ha⟩ := evOpsD_chain os _ _ h
      exact ⟨_, e, .cons s c, hk, by simpa using ha.1, ha.2⟩
    split at h
    · rename_i hg
      split at h
      · rename_i hok
        obtain ⟨fr1, h, l⟩ := loc_op hok h
        exact go (.ex (by unfold WantsIs; rw [hg]) l rfl) h
      · simp at h
    · rename_i j want hg
      split at h
      · rename_i d hd
        split at h
        · rename_i hsk
          exact go (.sk (by unfold WantsIs; rw [hg]; exact ⟨d, hd, .inl ⟨hsk, rfl⟩⟩) rfl rfl) h
        obtain ⟨b, hb, h⟩ := bnd_some h
        have hb' := gBool_some hb
        rcases br_some h with ⟨hc, hq⟩ | ⟨hc, hq⟩
        · have e : b = want := by cases want <;> cases b <;> simp_all [bNot]
          subst e
          rw [set_get hb' (by simp)] at hq
          split at hq
          · rename_i hok
            obtain ⟨fr1, hq, l⟩ := loc_op hok hq
            exact go (.ex (by unfold WantsIs; rw [hg]; exact ⟨d, hd, .inr ⟨b, hb', by cases b <;> rfl⟩⟩) l rfl) hq
          · simp at hq
        · have e : b = !want := by cases want <;> cases b <;> simp_all [bNot]
          subst e
          rw [set_get hb' (by simp)] at hq
          exact go (.sk (by unfold WantsIs; rw [hg]; exact ⟨d, hd, .inr ⟨!want, hb', by cases want <;> rfl⟩⟩) rfl rfl) hq
      · simp at h
theorem hits_of {p : Fp} {h : H} (x : p.wrt h) : p.hits h = true := by
  unfold Fp.hits
  rcases x with x | ⟨d, j, e, eh⟩
  · simp [x]
  · subst eh; rw [e]; simp
theorem apart_of {p q : Fp} (h : p.apart q = true) (x : H) : (p.wrt x → ¬ q.tch x) ∧ (q.wrt x → ¬ p.tch x) := by
  unfold Fp.apart at h
  simp only [Bool.and_eq_true, List.all_eq_true, Bool.not_eq_true'] at h
  obtain ⟨h1, h2, h3, h4, h5⟩ := h
  have hh : ∀ {p q : Fp}, (∀ x ∈ q.rd, p.hits x = false) → (∀ x ∈ q.wr, p.hits x = false) → (∀ x ∈ p.wr, q.hits x = false) → (∀ a b, p.fam = some a → q.fam = some b → a ≠ b) → p.wrt x → ¬ q.tch x := fun g1 g2 g3 g4 hp hq => by
    have hp' := hits_of hp
    rcases hq with y | y | ⟨d, j, e, ex⟩
    · rw [g1 x y] at hp'; cases hp'
    · rw [g2 x y] at hp'; cases hp'
    · rcases hp with z | ⟨d', j', e', ex'⟩
      · have := g3 x z
        unfold Fp.hits at this
        subst ex; rw [e] at this; simp at this
      · rw [ex] at ex'; cases ex'
        exact g4 d d e' e rfl
  have hfam : ∀ a b, p.fam = some a → q.fam = some b → a ≠ b := fun a b e1 e2 => by
    rw [e1, e2] at h5; simpa using h5
  exact ⟨hh h1 h2 h4 hfam, hh h3 h4 h2 fun a b e1 e2 => (hfam b a e2 e1).symm⟩
theorem empty_of {p : Fp} (h : p.empty = true) : p = ⟨[], [], none⟩ := by
  unfold Fp.empty at h
  split at h
  · rfl
  · cases h
theorem idxFp_mem : ∀ (ps : List Fp) (n i : Nat) (p : Fp), ps[i]? = some p → p.empty = false → (p, n + i) ∈ idxFp ps n
  | [], n, i, p, h, _ => by simp at h
  | a :: ps, n, i, p, h, he => by
    unfold idxFp
    cases i with
    | zero =>
      simp at h; subst h
      rw [he]; simp
    | succ i =>
      have := idxFp_mem ps (n + 1) i p (by simpa using h) he
      have e : n + 1 + i = n + (i + 1) := by omega
      rw [e] at this
      split
      · exact this
      · exact List.mem_cons_of_mem _ this
theorem idxFp_ge : ∀ (ps : List Fp) (n : Nat) (x : Fp × Nat), x ∈ idxFp ps n → n ≤ x.2
  | [], n, x, h => by simp [idxFp] at h
  | a :: ps, n, x, h => by
    unfold idxFp at h
    split at h
    · have := idxFp_ge ps (n + 1) x h; omega
    · rcases List.mem_cons.1 h with e | h
      · subst e; exact Nat.le_refl _
      · have := idxFp_ge ps (n + 1) x h; omega
theorem idxFp_sorted : ∀ (ps : List Fp) (n : Nat), (idxFp ps n).Pairwise (fun x y => x.2 < y.2)
  | [], n => .nil
  | a :: ps, n => by
    unfold idxFp
    split
    · exact idxFp_sorted ps (n + 1)
    · exact .cons (fun y hy => by have := idxFp_ge ps (n + 1) y hy; omega) (idxFp_sorted ps (n + 1))
theorem apartAll_of {p : Fp} {i : Nat} : ∀ {qs : List (Fp × Nat)}, apartAll all p i qs = true → ∀ x ∈ qs, p.apart x.1 = true ∨ pathB all 6 i x.2 = true
  | [], _, x, hx => by simp at hx
  | (q, j) :: qs, h, x, hx => by
    simp only [apartAll, Bool.and_eq_true, Bool.or_eq_true] at h
    rcases List.mem_cons.1 hx with e | hx
    · subst e; exact h.1
    · exact apartAll_of h.2 x hx
theorem apartPs_of : ∀ {ps : List (Fp × Nat)}, apartPs all ps = true → ps.Pairwise fun x y => x.1.apart y.1 = true ∨ pathB all 6 x.2 y.2 = true
  | [], _ => .nil
  | (p, i) :: ps, h => by
    simp only [apartPs, Bool.and_eq_true] at h
    exact .cons (fun y hy => apartAll_of h.1 y hy) (apartPs_of h.2)
theorem apart_empty {q : Fp} (p : Fp) (h : q.empty = true ∨ p.empty = true) (x : H) : (p.wrt x → ¬ q.tch x) ∧ (q.wrt x → ¬ p.tch x) := by
  have hno : ∀ {a : Fp}, a.empty = true → (¬ a.wrt x) ∧ ¬ a.tch x := fun {a} ha => by
    rw [empty_of ha]
    constructor
    · rintro (y | ⟨d, j, y, _⟩)
      · simp at y
      · cases y
    · rintro (y | y | ⟨d, j, y, _⟩)
      · simp at y
      · simp at y
      · cases y
  rcases h with h | h
  · exact ⟨fun _ => (hno h).2, fun hq => absurd hq (hno h).1⟩
  · exact ⟨fun hp => absurd hp (hno h).1, fun _ => (hno h).2⟩
theorem pairwise_idx {A : Type} {R : A → A → Prop} : ∀ {l : List A}, l.Pairwise R → ∀ (f : A → Nat), l.Pairwise (fun x y => f x < f y) → ∀ x ∈ l, ∀ y ∈ l, f x < f y → R x y
  | [], _, f, _, x, hx, y, hy, _ => by simp at hx
  | a :: l, hp, f, hs, x, hx, y, hy, hlt => by
    cases hp with
    | cons h1 h2 =>
      cases hs with
      | cons s1 s2 =>
        rcases List.mem_cons.1 hx with e | hx1 <;> rcases List.mem_cons.1 hy with e' | hy1
        · subst e; subst e'; omega
        · rw [e]; exact h1 y hy1
        · have := s1 x hx1; rw [← e'] at this; omega
        · exact pairwise_idx h2 f s2 x hx1 y hy1 hlt
theorem path_of : ∀ (f : Nat) {i j : Nat}, pathB all f i j = true → Path all i j
  | 0, i, j, h => by simp [pathB] at h
  | f + 1, i, j, h => by
    unfold pathB at h
    split at h
    · rename_i oj hj
      rw [← Array.any_toList] at h
      obtain ⟨e, he, hb⟩ := List.any_eq_true.1 h
      simp only [Bool.and_eq_true, Bool.or_eq_true, beq_iff_eq] at hb
      rcases hb.2 with h' | h'
      · exact .one hj (by simpa using he) hb.1 h'
      · exact .more (path_of f h'.2) hj (by simpa using he) hb.1 rfl
    · cases h
theorem anyApart_of {ps : List Fp} (h : anyApart all ps = true) (i j : Nat) (p q : Fp) (oj : Oper) (hi : ps[i]? = some p) (hj : ps[j]? = some q) (hoj : all[j]? = some oj) (hij : i < j) (hno : ¬ Path all i j) (x : H) : (p.wrt x → ¬ q.tch x) ∧ (q.wrt x → ¬ p.tch x) := by
  unfold anyApart at h
  by_cases hp : p.empty = true
  · exact apart_empty p (.inr hp) x
  · by_cases hq : q.empty = true
    · exact apart_empty p (.inl hq) x
    · have m1 := idxFp_mem ps 0 i p hi (by simpa using hp)
      have m2 := idxFp_mem ps 0 j q hj (by simpa using hq)
      have := pairwise_idx (apartPs_of h) (·.2) (idxFp_sorted ps 0) _ m1 _ m2 (by simp; exact hij)
      simp only [Nat.zero_add] at this
      rcases this with y | y
      · exact apart_of y x
      · exact absurd (path_of 6 y) hno
theorem chain_len {os : List Oper} {fr e : Fr} {ps : List Fp} (h : Chain E run all os fr ps e) : ps.length = os.length := by
  induction h with
  | nil => rfl
  | cons _ _ ih => simp [ih]
/-- a region of any order -/
theorem regOk_draw {id : Nat} {ops : Array Oper} (hm : E.P.follows .mixedOrders = true) (hB : Region.lexB .any ops = true) (hask : ∀ (i : Nat) (o : Oper) (Q : Exit → Act → World → Prop), ops[i]? = some o → Ask E run o Q) : RegOk E run id ops true := by
  intro R r k fr g a w h S
  simp only [if_true] at h
  obtain ⟨g1, S1, F1⟩ := kill_sim S (layers ops.toList)
  obtain ⟨qs, e, hc, hk, hap⟩ := evOpsD_chain _ _ _ h
  obtain ⟨hap, hnd⟩ := hap
  simp only [List.reverse_nil, List.nil_append] at hap
  refine wp_region_any hm ?_
  unfold Region.lexB at hB
  simp only [Bool.and_eq_true] at hB
  have hlen := chain_len hc
  have hA : AnyF E run ops (fun i => (qs[i]?).getD ⟨[], [], none⟩) e ops.toList.length (Array.replicate ops.size false) (fr.kill (layers ops.toList)) :=
    anyF_lex ops.toList qs 0 _ _ (by simp) (fun j p hj => by simp only [Nat.zero_add, hj]; rfl) (by simpa using hB.2) (fun j hj => by omega) (by simp) (fun k ok _ hl => by
      exfalso
      rcases Nat.lt_or_ge k ops.size with h' | h'
      · simp [h'] at hl
      · simp [Array.getElem?_eq_none h', Nat.not_lt.2 h'] at hl) (fun i j oi oj hi hj hij hno => by
      have hil : i < qs.length := by rw [hlen]; simpa using (Array.getElem?_eq_some_iff.1 hi).1
      have hjl : j < qs.length := by rw [hlen]; simpa using (Array.getElem?_eq_some_iff.1 hj).1
      have e1 : qs[i]? = some (qs[i]'hil) := List.getElem?_eq_getElem hil
      have e2 : qs[j]? = some (qs[j]'hjl) := List.getElem?_eq_getElem hjl
      simp only [e1, e2, Option.getD_some]
      exact anyApart_of hap i j _ _ oj e1 e2 hj hij hno) hc
  have hdr : Sim (fr.kill (layers ops.toList)) g1 a.tmps { w with drawn := w.drawn + 1 } := sim_world S1 (fun _ _ => rfl) (Nat.le_refl _)
  have hA' : AnyF E run ops (fun i => (qs[i]?).getD ⟨[], [], none⟩) e ops.size (Array.replicate ops.size false) (fr.kill (layers ops.toList)) := by simpa using hA
  refine anyF_wp hnd (fun i o ho => hask i o _ ho) ops.size hA' hdr fun a' w' hd ⟨g', S', F'⟩ => ?_
  refine ⟨.normal, rfl, hd, e, g', hk, S', F1.trans ?_⟩
  exact ⟨F'.os, F'.tape, F'.output, F'.size, F'.heap, F'.own, F'.prot, F'.prot', F'.imp⟩
theorem ask_ok (hrun : RunOk E.P run) (o : Oper) (Q : Exit → Act → World → Prop) : Ask E run o Q :=
  evOp_ok (fun _ _ ho hc => call_ok hrun ho hc) (fun _ _ _ _ _ ho ha => seq_ok ho ha)
/-- each region of any order is written in an order that it allows -/
def lexAll : Code → Bool
  | .region _ ops d => !d || Region.lexB .any ops
  | .seq a b => lexAll a && lexAll b
  | .cond _ a b => lexAll a && lexAll b
  | .block _ c => lexAll c
  | .loop c => lexAll c
  | _ => true
theorem regs_ok (hm : E.P.follows .mixedOrders = true) (hrun : RunOk E.P run) : ∀ c : Code, lexAll c = true → AllReg (RegOk E run) c
  | .region id ops d, h => by
    cases d with
    | true => exact regOk_draw hm (by simpa [lexAll] using h) fun i o Q _ => ask_ok hrun o Q
    | false => exact regOk_plain fun i o Q _ => ask_ok hrun o Q
  | .seq a b, h => by
    simp only [lexAll, Bool.and_eq_true] at h
    exact ⟨regs_ok hm hrun a h.1, regs_ok hm hrun b h.2⟩
  | .cond _ a b, h => by
    simp only [lexAll, Bool.and_eq_true] at h
    exact ⟨regs_ok hm hrun a h.1, regs_ok hm hrun b h.2⟩
  | .block _ c, h => regs_ok hm hrun c h
  | .loop c, h => regs_ok hm hrun c h
  | .skip, _ => trivial
  | .exit _, _ => trivial
  | .ret, _ => trivial
  | .label _, _ => trivial
  | .goto _, _ => trivial
  | .rangeFunc _ _ _ _, _ => trivial
  | .scope _, _ => trivial
  | .refuse _, _ => trivial
/-- WHAT THE EVALUATOR ANSWERS IS WHAT THE PROGRAM DOES. -/
theorem sound {L : Nat} (hm : E.P.follows .mixedOrders = true) (hname : ∀ (f : FuncId) (fn : Func), E.P.funcs[f]? = some fn → (fn.name == "runtime.NumGoroutine") = false)
    (hlex : ∀ (f : FuncId) (fn : Func) (c : Code), E.P.funcs[f]? = some fn → fn.body = some c → E.okf f = true → lexAll c = true)
    (hext : ∀ f q, E.ext f = some q → RunOk E.P fun f' args imps => if f' = f then (q args).map fun m => (m, imps) else none) (D : Nat) : RunOk E.P (ev E L D) :=
  ev_ok hname (fun _ hrun f fn c hf hc ho => regs_ok hm hrun c (hlex f fn c hf hc ho)) hext D
end
end Kw
namespace Kw
set_option linter.unusedVariables false
set_option linter.unusedSimpArgs false
set_option linter.unusedSectionVars false
open Go Go.RowKit
variable [Gl]
/-- all memory that is there -/
def there (w : World) : Nat → Prop := fun b => b < w.heap.size
/-- a call of plain values whose answer is a bool -/
theorem law_of {E : Env} {L D : Nat} (hs : RunOk E.P (ev E L D)) {f : FuncId} {args : List MV} {vals : Array Value} {W : World} {b : Bool} (he : ev E L D f args [] = some (.bool b, []))
    (hv : Rl (fun v m => SV W (there W) v m) vals.toList args) (hc : (callFunc f vals).run E.P W = .ok (.enter f vals) W) (hg : GlobOk (there W) W) :
    Calls E.P f vals W fun e w' => e = .returned (.bool b) ∧ Below W.heap.size W w' := by
  have hrl : Rl (RV (gB [] (there W)) (cuB []) W) vals.toList args := hv.mono fun v m h => .sv h
  have p : Pre [] (there W) W vals.toList args [] [] [] := ⟨bvs_of_rl hrl, .nil, .nil, fun b hb => by simp [blks] at hb, fun b hb => hb, hg⟩
  have h := hs he p
  unfold UponF at h
  rw [hc] at h
  refine h.mono fun e w' ⟨v, ev, ex, prot', fa', fo', hR, _, _, _, _, K⟩ => ?_
  subst ev
  refine ⟨?_, K.os, K.tape, K.output, K.size, fun k hk => K.heap k hk (by simp [blks])⟩
  congr 1
  cases hR with
  | one h _ => exact rv_bool (scal_rv (g1 := gB [] (there W)) (cu1 := cuB []) (w1 := W) h rfl)
/-- bytes in memory -/
theorem sv_bytes {W : World} {prot : Nat → Prop} {ad : Addr} {n c : Nat} (hs : ad.spot = none) (hp : prot ad.block) (hc : n ≤ c) (l : List UInt8) (hl : l.length = n)
    (h : ∀ (i : Nat) (x : UInt8), l[i]? = some x → W.cell? ⟨ad.block, ad.off + i, none⟩ = some (.int .u8 x.toNat)) :
    SV W prot (.slice (some ad) n c) (.sl (l.map fun x => [.int .u8 x.toNat])) := by
  refine .sl 1 (fun i _ => .int .u8 (((l[i]?).getD 0).toNat : Nat)) (by simp [hl]) hc (fun i row hi => ?_) (fun _ => ⟨ad, rfl, hs, hp, fun i row j m hi hj => ?_⟩) (fun i row j m hi hj => ?_)
  · rw [List.getElem?_map] at hi
    obtain ⟨x, _, e⟩ := Option.map_eq_some_iff.1 hi
    rw [← e]; rfl
  · rw [List.getElem?_map] at hi
    obtain ⟨x, hx, e⟩ := Option.map_eq_some_iff.1 hi
    subst e
    cases j with
    | zero =>
      have := h i x hx
      simp only [Nat.mul_one, Nat.add_zero, hx, Option.getD_some]
      exact this
    | succ j => simp at hj
  · rw [List.getElem?_map] at hi
    obtain ⟨x, hx, e⟩ := Option.map_eq_some_iff.1 hi
    subst e
    cases j with
    | zero => simp at hj; subst hj; simp only [hx, Option.getD_some]; exact .int _ _
    | succ j => simp at hj
end Kw
namespace Kw
set_option linter.unusedVariables false
set_option linter.unusedSimpArgs false
set_option linter.unusedSectionVars false
open Go Go.RowKit
variable [Gl]
/-- values that are told whole -/
def MV.im : MV → Bool | .bool _ | .int _ _ | .str _ | .sl _ | .iface _ => true | _ => false
section
variable {g : G} {cu : H → Int} {w : World} {f : List Nat}
theorem BV.im {v : Value} {m : MV} (h : BV g cu w v m f) (hm : m.im = true) : f = [] ∧ SV w g.prot v m := by
  cases h with
  | one h =>
    cases h with
    | rv h =>
      cases h <;> first | (cases hm; done) | skip
      rename_i h
      exact ⟨rfl, h⟩
    | own0 => cases hm
    | own => cases hm
    | ownK0 => cases hm
    | ownK => cases hm
  | agg => cases hm
theorem BVs.im {vs : List Value} {ms : List MV} (h : BVs g cu w vs ms f) (hm : ms.all MV.im = true) : f = [] ∧ Rl (fun v m => SV w g.prot v m) vs ms := by
  induction h with
  | nil => exact ⟨rfl, .nil⟩
  | cons h _ ih =>
    simp only [List.all_cons, Bool.and_eq_true] at hm
    obtain ⟨e1, s1⟩ := h.im hm.1
    obtain ⟨e2, s2⟩ := ih hm.2
    exact ⟨by rw [e1, e2]; rfl, .cons s1 s2⟩
/-- a result that is told whole: one value, or several -/
inductive ImR (w : World) (prot : Nat → Prop) : Value → MV → Prop
  | one {v : Value} {m : MV} (h : SV w prot v m) (hm : m.im = true) : ImR w prot v m
  | tup {vs : Array Value} {ms : List MV} (h : Rl (fun v m => SV w prot v m) vs.toList ms) : ImR w prot (.tuple vs) (.tup ms)
/-- a contract for a function of the library that reads package variables -/
theorem ext_okG {P : Program} {f : FuncId} {q : List MV → Option MV} (hq : ∀ args m, q args = some m → args.all MV.im = true)
    (hcall : ∀ (args : List MV) (m : MV), q args = some m → ∀ (vals : Array Value) (w : World) (prot : Nat → Prop), (∀ b, prot b → b < w.heap.size) → GlobOk prot w → Rl (fun v m => SV w prot v m) vals.toList args → UponF P f vals w fun v w' => ImR w' prot v m ∧ Below w.heap.size w w') :
    RunOk P fun f' args imps => if f' = f then (q args).map fun m => (m, imps) else none := by
  intro f' args imps res vals w gs prot fa fo h p
  simp only at h
  split at h
  case isFalse => simp at h
  rename_i ef
  subst ef
  obtain ⟨m, hm, e⟩ := Option.map_eq_some_iff.1 h
  subst e
  obtain ⟨efa, hv⟩ := p.vs.im (hq args m hm)
  subst efa
  refine (hcall args m hm vals w prot p.plt p.gl hv).mono fun v w' ⟨hI, hB⟩ => ?_
  have hblk : ∀ b, b < w.heap.size → w'.heap[b]? = w.heap[b]? := fun b hb => hB.block b hb
  have L : Later (gB gs prot) (gB gs prot) (cuB imps) (cuB imps) w w' :=
    ⟨fun _ _ e => .inl e, fun _ _ _ _ e => .inr ⟨Int.le_refl _, .inl e⟩, fun _ e => .inr ⟨Int.le_refl _, .inl e⟩, fun _ e => e, fun _ h => h, fun b hp => hblk b (p.plt b hp)⟩
  refine ⟨[], prot, [], fo, ?_, ?_, ?_, ?_, fun b hp => Nat.lt_of_lt_of_le (p.plt b hp) hB.size, ?_⟩
  · rw [List.append_nil]
    cases hI with
    | one h1 hm1 => exact .one (.one (.rv (.sv h1))) (fun ms e => by simp only at e; rw [e] at hm1; cases hm1)
    | tup h1 => exact .tup (bvs_of_rl (h1.mono fun _ _ hx => .sv hx))
  · rw [List.append_nil]
    exact p.os.mono L (fun b hb => ⟨hblk b (p.lt b (by simp [hb])), p.os.np b hb⟩) fun x hx b e => ⟨hblk b (p.lt b (List.mem_append_right _ (mem_blks.2 ⟨x, hx, e⟩))), id⟩
  · rw [List.append_nil]; exact p.nod
  · rw [List.append_nil]; exact fun b hb => Nat.lt_of_lt_of_le (p.lt b hb) hB.size
  · rw [List.append_nil]
    exact ⟨hB.os, hB.tape, hB.output, hB.size, fun b hb _ => hblk b hb, fun b hb => .inr hb, fun _ h => h, fun _ h => .inl h⟩
theorem upon_calls {P : Program} {f : FuncId} {vals : Array Value} {w : World} {R : Value → World → Prop} (hc : (callFunc f vals).run P w = .ok (.enter f vals) w) (h : Calls P f vals w fun e w' => ∃ v, e = .returned v ∧ R v w') : UponF P f vals w R := by
  unfold UponF
  rw [hc]
  exact h
/-- a contract for a function of the library -/
theorem ext_ok {P : Program} {f : FuncId} {q : List MV → Option MV} (hq : ∀ args m, q args = some m → args.all MV.im = true)
    (hcall : ∀ (args : List MV) (m : MV), q args = some m → ∀ (vals : Array Value) (w : World) (prot : Nat → Prop), (∀ b, prot b → b < w.heap.size) → Rl (fun v m => SV w prot v m) vals.toList args → UponF P f vals w fun v w' => ImR w' prot v m ∧ Below w.heap.size w w') :
    RunOk P fun f' args imps => if f' = f then (q args).map fun m => (m, imps) else none :=
  ext_okG hq fun args m h vals w prot h1 _ h2 => hcall args m h vals w prot h1 h2
end
end Kw
namespace Kw
set_option linter.unusedVariables false
set_option linter.unusedSimpArgs false
set_option linter.unusedSectionVars false
open Go Go.RowKit
variable [Gl]
/-- memory that nobody writes, and what was laid since -/
def laidP (prot : Nat → Prop) (w w' : World) : Nat → Prop := fun b => prot b ∨ (w.heap.size ≤ b ∧ b < w'.heap.size)
/-- a contract for a function that hands back what lies in new memory -/
theorem ext_ok2 {P : Program} {f : FuncId} {q : List MV → Option MV} (hq : ∀ args m, q args = some m → args.all MV.im = true)
    (hcall : ∀ (args : List MV) (m : MV), q args = some m → ∀ (vals : Array Value) (w : World) (prot : Nat → Prop), (∀ b, prot b → b < w.heap.size) → Rl (fun v m => SV w prot v m) vals.toList args → UponF P f vals w fun v w' => ImR w' (laidP prot w w') v m ∧ Below w.heap.size w w') :
    RunOk P fun f' args imps => if f' = f then (q args).map fun m => (m, imps) else none := by
  intro f' args imps res vals w gs prot fa fo h p
  simp only at h
  split at h
  case isFalse => simp at h
  rename_i ef
  subst ef
  obtain ⟨m, hm, e⟩ := Option.map_eq_some_iff.1 h
  subst e
  obtain ⟨efa, hv⟩ := p.vs.im (hq args m hm)
  subst efa
  refine (hcall args m hm vals w prot p.plt hv).mono fun v w' ⟨hI, hB⟩ => ?_
  have hblk : ∀ b, b < w.heap.size → w'.heap[b]? = w.heap[b]? := fun b hb => hB.block b hb
  have L : Later (gB gs prot) (gB gs (laidP prot w w')) (cuB imps) (cuB imps) w w' :=
    ⟨fun _ _ e => .inl e, fun _ _ _ _ e => .inr ⟨Int.le_refl _, .inl e⟩, fun _ e => .inr ⟨Int.le_refl _, .inl e⟩, fun _ e => e, fun _ h => .inl h, fun b hp => hblk b (p.plt b hp)⟩
  have hnp : ∀ b, b < w.heap.size → ¬ prot b → ¬ laidP prot w w' b := fun b hb hn h => h.elim hn fun h => absurd h.1 (by omega)
  refine ⟨[], laidP prot w w', [], fo, ?_, ?_, ?_, ?_, fun b hp => hp.elim (fun hp => Nat.lt_of_lt_of_le (p.plt b hp) hB.size) fun h => h.2, ?_⟩
  · rw [List.append_nil]
    cases hI with
    | one h1 hm1 => exact .one (.one (.rv (.sv h1))) (fun ms e => by simp only at e; rw [e] at hm1; cases hm1)
    | tup h1 => exact .tup (bvs_of_rl (h1.mono fun _ _ hx => .sv hx))
  · rw [List.append_nil]
    exact p.os.mono L (fun b hb => ⟨hblk b (p.lt b (by simp [hb])), hnp b (p.lt b (by simp [hb])) (p.os.np b hb)⟩) fun x hx b e => ⟨hblk b (p.lt b (List.mem_append_right _ (mem_blks.2 ⟨x, hx, e⟩))), hnp b (p.lt b (List.mem_append_right _ (mem_blks.2 ⟨x, hx, e⟩)))⟩
  · rw [List.append_nil]; exact p.nod
  · rw [List.append_nil]; exact fun b hb => Nat.lt_of_lt_of_le (p.lt b hb) hB.size
  · rw [List.append_nil]
    exact ⟨hB.os, hB.tape, hB.output, hB.size, fun b hb _ => hblk b hb, fun b hb => .inr hb, fun _ h => .inl h, fun _ h => h.elim .inl fun h => .inr (.inl h.1)⟩
/-- an own slice, new or empty -/
def OwnV (B : Nat) (prot : Nat → Prop) (w' : World) (v : Value) (rows : List Row) : Prop :=
  (rows = [] ∧ ∃ a, v = .slice a 0 0) ∨ ∃ b cap sz arr ty, v = .slice (some ⟨b, 0, none⟩) rows.length cap ∧ B ≤ b ∧ w'.heap[b]? = some (.cells arr ty (0, 0)) ∧ Room false arr cap sz rows ∧ rows.length ≤ cap ∧ RowsR w' prot arr sz rows
/-- a contract for a function that hands back a new slice -/
theorem ext_ok3 {P : Program} {f : FuncId} {q : List MV → Option MV} (hq : ∀ args m, q args = some m → args.all MV.im = true)
    (hcall : ∀ (args : List MV) (m : MV), q args = some m → ∀ (vals : Array Value) (w : World) (prot : Nat → Prop), (∀ b, prot b → b < w.heap.size) → Rl (fun v m => SV w prot v m) vals.toList args → UponF P f vals w fun v w' => (∃ rows, m = .own rows ∧ OwnV w.heap.size prot w' v rows) ∧ Below w.heap.size w w') :
    RunOk P fun f' args imps => if f' = f then (q args).map fun m => (m, imps) else none := by
  intro f' args imps res vals w gs prot fa fo h p
  simp only at h
  split at h
  case isFalse => simp at h
  rename_i ef
  subst ef
  obtain ⟨m, hm, e⟩ := Option.map_eq_some_iff.1 h
  subst e
  obtain ⟨efa, hv⟩ := p.vs.im (hq args m hm)
  subst efa
  refine (hcall args m hm vals w prot p.plt hv).mono fun v w' ⟨⟨rows, em, hI⟩, hB⟩ => ?_
  subst em
  have hblk : ∀ b, b < w.heap.size → w'.heap[b]? = w.heap[b]? := fun b hb => hB.block b hb
  have L : Later (gB gs prot) (gB gs prot) (cuB imps) (cuB imps) w w' :=
    ⟨fun _ _ e => .inl e, fun _ _ _ _ e => .inr ⟨Int.le_refl _, .inl e⟩, fun _ e => .inr ⟨Int.le_refl _, .inl e⟩, fun _ e => e, fun _ h => h, fun b hp => hblk b (p.plt b hp)⟩
  have hf : ∃ f, BC (gB gs prot) (cuB imps) w' v (.own rows) f ∧ f.Nodup ∧ ∀ b ∈ f, w.heap.size ≤ b ∧ b < w'.heap.size := by
    rcases hI with ⟨er, a, ev⟩ | ⟨b, cap, sz, arr, ty, ev, hb, hh, hs, hl, hr⟩
    · subst er; subst ev; exact ⟨[], .own0, List.nodup_nil, fun b hb => by simp at hb⟩
    · subst ev
      exact ⟨[b], .own hh (fun hp => absurd (p.plt b hp) (by omega)) hs hl hr, by simp, fun b' hb' => by simp at hb'; subst hb'; exact ⟨hb, heap_lt hh⟩⟩
  obtain ⟨f, hbc, hnd, hfb⟩ := hf
  refine ⟨[], prot, f, fo, ?_, ?_, ?_, ?_, fun b hp => Nat.lt_of_lt_of_le (p.plt b hp) hB.size, ?_⟩
  · rw [List.append_nil]
    exact .one (.one hbc) (fun ms e => by cases e)
  · rw [List.append_nil]
    exact p.os.mono L (fun b hb => ⟨hblk b (p.lt b (by simp [hb])), p.os.np b hb⟩) fun x hx b e => ⟨hblk b (p.lt b (List.mem_append_right _ (mem_blks.2 ⟨x, hx, e⟩))), id⟩
  · rw [List.append_nil, List.append_assoc]
    refine List.nodup_append.2 ⟨hnd, by simpa using p.nod, fun a ha b hb e => ?_⟩
    subst e
    have := p.lt a (by simpa using hb)
    have := (hfb a ha).1
    omega
  · rw [List.append_nil]
    intro b hb
    rw [List.append_assoc] at hb
    rcases List.mem_append.1 hb with hb | hb
    · exact (hfb b hb).2
    · exact Nat.lt_of_lt_of_le (p.lt b (by simpa using hb)) hB.size
  · rw [List.append_nil]
    refine ⟨hB.os, hB.tape, hB.output, hB.size, fun b hb _ => hblk b hb, fun b hb => ?_, fun _ h => h, fun _ h => .inl h⟩
    rw [List.append_assoc] at hb
    rcases List.mem_append.1 hb with hb | hb
    · exact .inl (hfb b hb).1
    · exact .inr (by simpa using hb)
end Kw
namespace Kw
set_option linter.unusedVariables false
set_option linter.unusedSimpArgs false
set_option linter.unusedSectionVars false
open Go Go.RowKit
variable [Gl]
set_option maxHeartbeats 2000000 in
set_option maxRecDepth 100000 in
/-- slices.Clone of no element, whatever the address -/
theorem cl_zero {P : Program} {ρ : Go.Shelf.Ren} (L : Go.Proofs.SlLaysE0.n41 P ρ) (i0 : TypeInfo) (z : Value) (size bytes : Nat) (hi : P.info? (ρ.t 23) = some i0) (hz0 : i0.zero = some z) (hz1 : i0.size = size) (hz2 : i0.bytes = bytes) (hzs : z.cells.size = size) (hsz : 0 < size)
    (z23 : ∀ w, (Go.sizeOf (ρ.t 23)).run P w = .ok size w) (a : Addr) (c : Nat) (w : World) :
    Calls P (ρ.f 41) #[.slice (some a) 0 c] w fun e w' => ∃ v', e = .returned v' ∧ w'.ownsRow w.heap.size (ρ.t 23) size v' 0 [] ∧ v' ≠ .slice none 0 0 ∧ Below w.heap.size w w' := by
  have mixed := L.mixed; have t4 := L.t4; have a4 := L.a4; have z4 := L.z4; have v4 := L.v4; have t22 := L.t22; have a22 := L.a22; have z22 := L.z22; have v22 := L.v22
  have q22 : ∀ (w : World) (a : Option Addr) (n c n' c' : Nat), (binOp .eql (ρ.t 22) (.slice a n c) (.slice none n' c')).run P w = .ok (.bool a.isNone) w := fun w a n c n' c' => Lib.run_eql_slice_nil w _ _ a n c n' c' L.t22
  have u22 : ∀ w, Sem.run P (underlying (ρ.t 22)) w = .ok (TypeDesc.slice (ρ.t 23)) w := run_underlying t22
  obtain ⟨_, _, FG⟩ := L.f41
  go_enter FG, Go.Proofs.SlBodyN.n41_ntmps ρ
  go_wp2_with (at_builtin; refine wpList_append_own _ rfl _ _ (ρ.t 22) rfl w.heap.size (ρ.t 23) i0 z size bytes t22 hi hz0 hz1 hz2 hzs hsz _ _ _ rfl (World.ownsRow_made w #[] 0 (Nat.le_refl _) (Nat.zero_le _) (by simp)) a 0 c [] rfl (by simp) (by intro j u hj; simp at hj) (by intro u hu; cases hu) (by unfold maxLen; omega) (by omega) (by simp) ?_)
  intro v' w1 hown hgrow hnil
  go_wp2
  go_ret
  refine ⟨v', rfl, by simpa using hown, hnil, ?_⟩
  exact ((Below.refl _ w).alloc (Nat.le_refl _) _).grown hgrow (by simp) (by intro k hk; simp [Value.ownBlock] at hk; omega)
/-- clone: the same rows in a new slice -/
def cloneQ (sz bytes : Nat) : List MV → Option MV
  | [.sl rows] => if okR sz rows && Nat.ble (rows.length * bytes) 70368744177664 then some (.own rows) else none
  | _ => none
theorem sv_one' {w : World} {p : Nat → Prop} {v : Value} {m : MV} (h : SV w p v m) : v.oneCell' = true := by
  cases h <;> rfl
theorem div_at {i j sz : Nat} (h : j < sz) : (i * sz + j) / sz = i ∧ (i * sz + j) % sz = j := by
  have hz : 0 < sz := by omega
  constructor
  · rw [Nat.mul_comm, Nat.mul_add_div hz, Nat.div_eq_of_lt h, Nat.add_zero]
  · rw [Nat.mul_comm, Nat.mul_add_mod, Nat.mod_eq_of_lt h]
theorem clone_ok {P : Program} {F : FuncId} {sz bytes E : Nat} (hsz : 0 < sz)
    (enter : ∀ v w, (callFunc F #[v]).run P w = .ok (.enter F #[v]) w)
    (hnil : ∀ n c w, Calls P F #[.slice none n c] w fun e w' => e = .returned (.slice none 0 0) ∧ w' = w)
    (hsome : ∀ (a : Addr) (n c : Nat) (news : List Value) (w : World), news.length = n * sz → n * bytes ≤ 70368744177664 → (0 < n → a.spot = none ∧ ∀ j u, news[j]? = some u → w.cell? ⟨a.block, a.off + j, none⟩ = some u) → (∀ u ∈ news, u.oneCell' = true) →
      Calls P F #[.slice (some a) n c] w fun e w' => ∃ g cur, e = .returned (.slice (some ⟨g, 0, none⟩) n n) ∧ w.heap.size ≤ g ∧ w'.heap[g]? = some (.cells cur E (0, 0)) ∧ n * sz ≤ cur.size ∧ cur.toList.take (n * sz) = news ∧ Below w.heap.size w w') :
    RunOk P fun f' args imps => if f' = F then (cloneQ sz bytes args).map fun m => (m, imps) else none := by
  refine ext_ok3 (q := cloneQ sz bytes) (fun args m h => ?_) fun args m h vals w prot hp hv => ?_
  · unfold cloneQ at h
    split at h
    · rfl
    · cases h
  unfold cloneQ at h
  split at h
  case h_2 => cases h
  rename_i rows
  split at h
  case isFalse => cases h
  rename_i hok
  cases h
  rw [Bool.and_eq_true, Nat.ble_eq] at hok
  obtain ⟨hok, hbig⟩ := hok
  have hlen : ∀ (i : Nat) (row : Row), rows[i]? = some row → row.length = sz := fun i row hi => okR_iff.1 hok _ (List.mem_of_getElem? hi)
  obtain ⟨v, hv', hs⟩ : ∃ v, vals = #[v] ∧ SV w prot v (.sl rows) := by
    obtain ⟨l⟩ := vals
    change Rl _ l _ at hv
    cases hv with
    | cons h1 h2 => cases h2; exact ⟨_, rfl, h1⟩
  subst hv'
  refine upon_calls (enter v w) ?_
  cases hs with
  | @sl a n c _ sz' vf hn hc hrow had hsv =>
    cases a with
    | none =>
      have hn0 : n = 0 := by
        by_cases h0 : 0 < n
        · obtain ⟨ad, e, _⟩ := had h0; cases e
        · omega
      have hr0 : rows = [] := List.length_eq_zero_iff.1 (hn.trans hn0)
      refine (hnil n c w).mono fun e w' ⟨he, hw⟩ => ⟨_, he, ⟨rows, rfl, .inl ⟨hr0, _, rfl⟩⟩, ?_⟩
      rw [hw]; exact Below.refl _ w
    | some ad =>
      have hsz' : 0 < n → sz' = sz := fun h0 => by
        have h1 : rows[0]? = some (rows[0]'(by omega)) := List.getElem?_eq_getElem (by omega)
        rw [← hrow 0 _ h1, hlen 0 _ h1]
      have hget : ∀ (i j : Nat), i < n → j < sz → ∃ row m, rows[i]? = some row ∧ row[j]? = some m := fun i j hi hj => by
        have h1 : rows[i]? = some (rows[i]'(by omega)) := List.getElem?_eq_getElem (by omega)
        have h2 := hlen i _ h1
        exact ⟨_, _, h1, List.getElem?_eq_getElem (by omega)⟩
      have hnews : ∀ (i j : Nat), i < n → j < sz → ((List.range (n * sz)).map fun q => vf (q / sz) (q % sz))[i * sz + j]? = some (vf i j) := fun i j hi hj => by
        have hlt : i * sz + j < n * sz := by
          have : (i + 1) * sz ≤ n * sz := Nat.mul_le_mul_right _ hi
          rw [Nat.add_mul] at this; omega
        rw [List.getElem?_map, List.getElem?_range hlt]
        simp only [Option.map_some, (div_at hj).1, (div_at hj).2]
      refine (hsome ad n c ((List.range (n * sz)).map fun q => vf (q / sz) (q % sz)) w (by simp) (by rw [hn] at hbig; exact hbig) (fun h0 => ?_) (fun u hu => ?_)).mono fun e w' ⟨g, cur, he, hg, hh, hcs, ht, hB⟩ => ⟨_, he, ⟨rows, rfl, .inr ⟨g, n, sz, cur, E, by rw [hn], hg, hh, ⟨hcs, fun e => .inl (by rw [e] at hn; exact hn.symm)⟩, by omega, fun i row hi => ⟨hlen i row hi, fun j m hj => ?_⟩⟩⟩, hB⟩
      · obtain ⟨ad', e, hsp, hpb, hcell⟩ := had h0
        cases e
        refine ⟨hsp, fun j u hj => ?_⟩
        have hjl := (List.getElem?_eq_some_iff.1 hj).1
        simp at hjl
        rw [List.getElem?_map, List.getElem?_range hjl] at hj
        simp only [Option.map_some, Option.some.injEq] at hj
        have hi : j / sz < n := Nat.div_lt_of_lt_mul (by rw [Nat.mul_comm]; exact hjl)
        have hm : j % sz < sz := Nat.mod_lt _ hsz
        obtain ⟨row, m, h1, h2⟩ := hget (j / sz) (j % sz) hi hm
        have := hcell _ _ _ _ h1 h2
        rw [hsz' h0, Nat.mul_comm, Nat.div_add_mod] at this
        rw [this, hj]
      · obtain ⟨q, hq, e⟩ := List.mem_map.1 hu
        subst e
        have hq := List.mem_range.1 hq
        have hi : q / sz < n := Nat.div_lt_of_lt_mul (by rw [Nat.mul_comm]; exact hq)
        obtain ⟨row, m, h1, h2⟩ := hget (q / sz) (q % sz) hi (Nat.mod_lt _ hsz)
        exact sv_one' (hsv _ _ _ _ h1 h2)
      · have hil : i < n := by have := (List.getElem?_eq_some_iff.1 hi).1; omega
        have hjl : j < sz := by have := (List.getElem?_eq_some_iff.1 hj).1; rw [hlen i row hi] at this; exact this
        refine ⟨vf i j, ?_, (hsv _ _ _ _ hi hj).mono (fun _ h => h) fun b hb => hB.block b (hp b hb)⟩
        have h1 := hnews i j hil hjl
        rw [← ht] at h1
        have hlt : i * sz + j < n * sz := by
          have : (i + 1) * sz ≤ n * sz := Nat.mul_le_mul_right _ hil
          rw [Nat.add_mul] at this; omega
        rw [List.getElem?_take_of_lt hlt] at h1
        simpa using h1
end Kw
namespace Kw
set_option linter.unusedVariables false
set_option linter.unusedSimpArgs false
set_option linter.unusedSectionVars false
open Go
def bs (l : List UInt8) : ByteArray := ⟨l.toArray⟩
section
variable {R α : Type}
@[simp] theorem bnd_some' (x : α) (f : α → Option R) : bnd (some x) f = f x := (rfl)
@[simp] theorem bnd_none' (f : α → Option R) : bnd none f = none := (rfl)
@[simp] theorem br_true' (x y : Option R) : br true x y = x := (rfl)
@[simp] theorem br_false' (x y : Option R) : br false x y = y := (rfl)
theorem br_dec (p : Prop) [Decidable p] (x y : Option R) : br (decide p) x y = if p then x else y := by by_cases h : p <;> simp [br, h]
@[simp] theorem gBool_b (b : Bool) : gBool (.bool b) = some b := (rfl)
@[simp] theorem gInt_i (k : IntKind) (n : Int) : gInt k (.int k n) = some n := by simp [gInt]
@[simp] theorem gStr_s (s : ByteArray) : gStr (.str s) = some s := (rfl)
@[simp] theorem gSl_r (r : List Row) : gSl (.sl r) = some r := (rfl)
@[simp] theorem gOwn_r (r : List Row) : gOwn (.own r) = some r := (rfl)
@[simp] theorem gRows_r (r : List Row) : gRows (.rows r) = some r := (rfl)
@[simp] theorem gMap_r (r : List (ByteArray × Bool)) : gMap (.map r) = some r := (rfl)
theorem gTupN_t {n : Nat} (l : List MV) (h : l.length = n) : gTupN n (.tup l) = some l := by simp [gTupN, h]
theorem gAggN_t {n : Nat} (l : List MV) (h : l.length = n) : gAggN n (.agg l) = some l := by simp [gAggN, h]
theorem gCellsN_t {n : Nat} (l : List MV) (h : l.length = n) : gCellsN n (.cells l) = some l := by simp [gCellsN, h]
@[simp] theorem cellAt_zero (m : MV) (l : List MV) : cellAt (m :: l) 0 = m := (rfl)
@[simp] theorem cellAt_succ (m : MV) (l : List MV) (n : Nat) : cellAt (m :: l) (n + 1) = cellAt l n := (rfl)
@[simp] theorem hdO_c (o : Obj) (l : List Obj) : hdO (o :: l) = o := (rfl)
@[simp] theorem tlO_c (o : Obj) (l : List Obj) : tlO (o :: l) = l := (rfl)
@[simp] theorem bNot_t : bNot true = false := (rfl)
@[simp] theorem bNot_f : bNot false = true := (rfl)
@[simp] theorem bNot_dec (p : Prop) [Decidable p] : bNot (decide p) = decide (¬ p) := by by_cases h : p <;> simp [bNot, h]
@[simp] theorem iEq_dec (a b : Int) : iEq a b = decide (a = b) := by unfold iEq; by_cases h : a = b <;> simp [h]
@[simp] theorem iLt_dec (a b : Int) : iLt a b = decide (a < b) := (rfl)
@[simp] theorem iLe_dec (a b : Int) : iLe a b = decide (a ≤ b) := (rfl)
@[simp] theorem bAnd_dec (p q : Prop) [Decidable p] [Decidable q] : bAnd (decide p) (decide q) = decide (p ∧ q) := by by_cases h : p <;> by_cases h' : q <;> simp [bAnd, h, h']
@[simp] theorem bAnd_t (b : Bool) : bAnd true b = b := (rfl)
@[simp] theorem bAnd_f (b : Bool) : bAnd false b = false := (rfl)
@[simp] theorem bAnd_r (b : Bool) : bAnd b true = b := by cases b <;> rfl
@[simp] theorem sLen_bs (l : List UInt8) : sLen (bs l) = l.length := (rfl)
@[simp] theorem sCat_bs (a b : List UInt8) : sCat (bs a) (bs b) = bs (a ++ b) := by
  unfold sCat bs
  apply ByteArray.ext
  simp [ByteArray.append_eq, ByteArray.data_append]
theorem bs_list (l : List UInt8) : (bs l).toList = l := by rw [ByteArray.toList_eq]; rfl
theorem bs_inj {a b : List UInt8} (h : bs a = bs b) : a = b := by rw [← bs_list a, h, bs_list]
@[simp] theorem sEq_bs (a b : List UInt8) : sEq (bs a) (bs b) = decide (a = b) := by
  unfold sEq
  rw [bs_list, bs_list]
  by_cases h : a = b <;> simp [h]
theorem sSub_bs (a : List UInt8) (l h : Int) : sSub (bs a) l h = bs ((a.take h.toNat).drop l.toNat) := by
  unfold sSub bs
  apply ByteArray.ext
  rw [ByteArray.data_extract]
  apply Array.toList_inj.1
  simp [List.extract_eq_take_drop, List.drop_take]
theorem sAt_bs (a : List UInt8) (i : Int) (h : 0 ≤ i) : sAt (bs a) i = (a[i.toNat]?).map fun b => (b.toNat : Int) := by
  unfold sAt; rw [if_pos h]; rfl
@[simp] theorem rowsStr_one (n : Int) : rowsStr [[.int .u8 n]] = some (bs [n.toNat.toUInt8]) := (rfl)
theorem fits_dec (n m : Int) (k : Nat) : fits n m k = decide ((n + m) * k ≤ 2 ^ 46) := (rfl)
@[simp] theorem nrows_map {A : Type} (f : A → Row) (l : List A) : nrows (l.map f) = l.length := by simp [nrows]
@[simp] theorem nrows_nil : nrows [] = 0 := (rfl)
@[simp] theorem nrows_one (r : Row) : nrows [r] = 1 := (rfl)
@[simp] theorem catR_map {A : Type} (f : A → Row) (a b : List A) : catR (a.map f) (b.map f) = (a ++ b).map f := by simp [catR]
theorem catR_snoc {A : Type} (f : A → Row) (a : List A) (x : A) : catR (a.map f) [f x] = (a ++ [x]).map f := by simp [catR]
theorem okR_map {A : Type} (f : A → Row) (sz : Nat) (h : ∀ x, (f x).length = sz) (l : List A) : okR sz (l.map f) = true := by simp [okR, h]
theorem wrap_i64 {x : Int} (h1 : -9223372036854775808 ≤ x) (h2 : x ≤ 9223372036854775807) : IntKind.i64.wrap x = x := by
  rw [IntKind.wrap_i64]; omega
theorem iRem_nat (a b : Nat) : iRem (a : Int) (b : Int) = ((a % b : Nat) : Int) := by unfold iRem; rfl
theorem iQuo_nat (a b : Nat) (h : (a : Int) ≤ 9223372036854775807) : iQuo .i64 (a : Int) (b : Int) = ((a / b : Nat) : Int) := by
  unfold iQuo
  have e : (a : Int).tdiv (b : Int) = ((a / b : Nat) : Int) := (rfl)
  have hle : a / b ≤ a := Nat.div_le_self a b
  rw [e]
  generalize a / b = q at hle ⊢
  rw [wrap_i64] <;> omega
theorem iAdd_ok {a b : Int} (h1 : -9223372036854775808 ≤ a + b) (h2 : a + b ≤ 9223372036854775807) : iAdd .i64 a b = a + b := wrap_i64 h1 h2
theorem iSub_ok {a b : Int} (h1 : -9223372036854775808 ≤ a - b) (h2 : a - b ≤ 9223372036854775807) : iSub .i64 a b = a - b := wrap_i64 h1 h2
theorem iMul_ok {a b : Int} (h1 : -9223372036854775808 ≤ a * b) (h2 : a * b ≤ 9223372036854775807) : iMul .i64 a b = a * b := wrap_i64 h1 h2
theorem wrap_u8 {x : Int} (h1 : 0 ≤ x) (h2 : x ≤ 255) : IntKind.u8.wrap x = x := by
  simp [IntKind.wrap, IntKind.bits, IntKind.signed]; omega
end
end Kw
namespace Kw
set_option linter.unusedVariables false
set_option linter.unusedSimpArgs false
set_option linter.unusedSectionVars false
open Go
/-- the texts up to each sign 59; a: what was read since the last one -/
def cutS : List UInt8 → List UInt8 → List (List UInt8)
  | _, [] => []
  | a, c :: r => bif c == 59 then (a ++ [c]) :: cutS [] r else cutS (a ++ [c]) r
/-- what is behind the last sign -/
def restS : List UInt8 → List UInt8 → List UInt8
  | a, [] => a
  | a, c :: r => bif c == 59 then restS [] r else restS (a ++ [c]) r
theorem cutS_hit (a r : List UInt8) : cutS a (59 :: r) = (a ++ [59]) :: cutS [] r := rfl
theorem cutS_miss (a r : List UInt8) {c : UInt8} (h : c ≠ 59) : cutS a (c :: r) = cutS (a ++ [c]) r := by
  have e : (c == 59) = false := by simpa using h
  rw [cutS, e]; rfl
theorem restS_hit (a r : List UInt8) : restS a (59 :: r) = restS [] r := rfl
theorem restS_miss (a r : List UInt8) {c : UInt8} (h : c ≠ 59) : restS a (c :: r) = restS (a ++ [c]) r := by
  have e : (c == 59) = false := by simpa using h
  rw [restS, e]; rfl
theorem cutS_join : ∀ (s a : List UInt8), (cutS a s).flatten ++ restS a s = a ++ s
  | [], a => by simp [cutS, restS]
  | c :: r, a => by
    by_cases h : c = 59
    · subst h
      rw [cutS_hit, restS_hit, List.flatten_cons, List.append_assoc, cutS_join r []]
      simp
    · rw [cutS_miss _ _ h, restS_miss _ _ h, cutS_join r]
      simp
theorem cutS_piece : ∀ (s a : List UInt8), 59 ∉ a → ∀ p ∈ cutS a s, ∃ q, p = q ++ [59] ∧ 59 ∉ q
  | [], a, _, p, hp => by simp [cutS] at hp
  | c :: r, a, ha, p, hp => by
    by_cases h : c = 59
    · subst h
      rw [cutS_hit] at hp
      rcases List.mem_cons.1 hp with e | e
      · exact ⟨a, e, ha⟩
      · exact cutS_piece r [] (by simp) p e
    · rw [cutS_miss _ _ h] at hp
      exact cutS_piece r _ (by simp [ha, Ne.symm h]) p hp
theorem restS_no : ∀ (s a : List UInt8), 59 ∉ a → 59 ∉ restS a s
  | [], a, ha => by simpa [restS] using ha
  | c :: r, a, ha => by
    by_cases h : c = 59
    · subst h; rw [restS_hit]; exact restS_no r [] (by simp)
    · rw [restS_miss _ _ h]; exact restS_no r _ (by simp [ha, Ne.symm h])
theorem indexByte_at : ∀ (a r : List UInt8), 59 ∉ a → Lib.indexByte (a ++ 59 :: r) 59 = a.length
  | [], r, _ => by simp [Lib.indexByte]
  | b :: a, r, h => by
    have h1 : b ≠ 59 := fun e => h (by simp [e])
    have h2 : (b == 59) = false := by simpa using h1
    have ih := indexByte_at a r (fun e => h (by simp [e]))
    rw [List.cons_append, Lib.indexByte, h2, ih]
    have h3 : ((a.length : Int) == -1) = false := by rw [beq_eq_false_iff_ne]; omega
    rw [h3]
    simp
theorem splitK_cut : ∀ (s a : List UInt8), 59 ∉ a → Lib.splitK [59] 1 (s.count 59) (a ++ s) = cutS a s ++ [restS a s]
  | [], a, _ => by simp [cutS, restS, Lib.splitK]
  | c :: r, a, ha => by
    by_cases h : c = 59
    · subst h
      rw [cutS_hit, restS_hit, List.count_cons_self, Lib.splitK, Lib.index_one, indexByte_at a r ha]
      have h3 : ((a.length : Int) == -1) = false := by rw [beq_eq_false_iff_ne]; omega
      rw [h3]
      have e1 : (a ++ 59 :: r).take (((a.length : Int)).toNat + 1) = a ++ [59] := by
        rw [Int.toNat_natCast, List.take_append, List.take_of_length_le (by omega)]; simp
      have e2 : (a ++ 59 :: r).drop (((a.length : Int)).toNat + ([59] : List UInt8).length) = r := by
        rw [Int.toNat_natCast, List.drop_append]; simp
      have ih := splitK_cut r [] (by simp)
      rw [List.nil_append] at ih
      simp only [Bool.false_eq_true, if_false]
      rw [e1, e2, ih]; rfl
    · rw [cutS_miss _ _ h, restS_miss _ _ h, List.count_cons_of_ne (by simpa using h)]
      have ih := splitK_cut r (a ++ [c]) (by simp [ha, Ne.symm h])
      rw [List.append_assoc] at ih
      exact ih
theorem bs_data (b : ByteArray) : bs b.data.toList = b := by cases b; simp [bs]
/-- the pieces of a text, by the library's cutting -/
theorem splitB_cut (s : ByteArray) : Lib.splitB ⟨#[59]⟩ 1 (Lib.countByte s.data.toList 59) s = (cutS [] s.data.toList ++ [restS [] s.data.toList]).map bs := by
  have h := Lib.splitB_data ⟨#[59]⟩ 1 (Lib.countByte s.data.toList 59) s
  have e := splitK_cut s.data.toList [] (by simp)
  rw [List.nil_append] at e
  have h2 : (Lib.splitB ⟨#[59]⟩ 1 (Lib.countByte s.data.toList 59) s).map (·.data.toList) = cutS [] s.data.toList ++ [restS [] s.data.toList] := h.trans e
  rw [← h2, List.map_map]
  conv => lhs; rw [← List.map_id (Lib.splitB ⟨#[59]⟩ 1 (Lib.countByte s.data.toList 59) s)]
  exact List.map_congr_left fun b _ => (bs_data b).symm
theorem cutS_count : ∀ (s a : List UInt8), (cutS a s).length = s.count 59
  | [], a => by simp [cutS]
  | c :: r, a => by
    by_cases h : c = 59
    · subst h; rw [cutS_hit, List.count_cons_self, List.length_cons, cutS_count]
    · rw [cutS_miss _ _ h, List.count_cons_of_ne (by simpa using h), cutS_count]
end Kw
namespace Kw
set_option linter.unusedVariables false
set_option linter.unusedSimpArgs false
set_option linter.unusedSectionVars false
open Go
/-- strconv.Atoi where what it reads is a numeral of at most 18 bytes -/
def atoiQ : List MV → Option MV
  | [.str s] => if s.size ≤ 18 then (match Lib.atoi s.data.toList with | some n => some (.tup [.int .i64 n, .iface true]) | none => none) else none
  | _ => none
end Kw
namespace Kw
set_option linter.unusedVariables false
set_option linter.unusedSimpArgs false
set_option linter.unusedSectionVars false
open Go
/-- impl.TagNames: the pieces of a text, in a new slice -/
def tagQ : List MV → Option MV
  | [.str s] => if s.size ≤ 2000000 then some (.own ((cutS [] s.data.toList).map fun x => [.str (bs x)])) else none
  | _ => none
end Kw
namespace Kw
set_option linter.unusedVariables false
set_option linter.unusedSimpArgs false
set_option linter.unusedSectionVars false
open Go
/-- slices.Clip of what nobody writes any more -/
def clipQ : List MV → Option MV
  | [.sl rows] => some (.sl rows)
  | _ => none
/-- strconv.Itoa of 0 .. 99 -/
def itoaQ : List MV → Option MV
  | [.int .i64 n] => if 0 ≤ n ∧ n < 100 then some (.str (bs (if n < 10 then [(48 + n).toNat.toUInt8] else [(48 + n / 10).toNat.toUInt8, (48 + n % 10).toNat.toUInt8]))) else none
  | _ => none
def strRows : List Row → Option (List (List UInt8))
  | [] => some []
  | [.str s] :: r => (strRows r).bind fun t => some (s.data.toList :: t)
  | _ :: _ => none
/-- strings.Join with nothing between -/
def joinQ : List MV → Option MV
  | [.sl rows, .str sep] => (strRows rows).bind fun l => if sep.data.toList = [] ∧ l.length ≤ 1000 ∧ l.flatten.length ≤ 1000000 ∧ 0 < l.length then some (.str (bs l.flatten)) else none
  | _ => none
/-- strings.Count of one byte -/
def countQ : List MV → Option MV
  | [.str s, .str c] => (match c.data.toList with | [b] => some (.int .i64 (s.data.toList.count b)) | _ => none)
  | _ => none
/-- slices.Delete of elements of four cells -/
def delQ : List MV → Option MV
  | [.ownK rows, .int .i64 i, .int .i64 j] => if okR 4 rows && (decide (0 ≤ i ∧ i < j ∧ j ≤ rows.length)) then some (.ownK (rows.take i.toNat ++ rows.drop j.toNat)) else none
  | _ => none
end Kw
namespace Kw
set_option linter.unusedVariables false
set_option linter.unusedSimpArgs false
set_option linter.unusedSectionVars false
open Go
/-- the pieces of a text between its signs 32; a: what was read since the last one -/
def spl : List UInt8 → List UInt8 → List (List UInt8)
  | a, [] => [a]
  | a, c :: r => bif c == 32 then a :: spl [] r else spl (a ++ [c]) r
theorem spl_hit (a r : List UInt8) : spl a (32 :: r) = a :: spl [] r := rfl
theorem spl_miss (a r : List UInt8) {c : UInt8} (h : c ≠ 32) : spl a (c :: r) = spl (a ++ [c]) r := by
  have e : (c == 32) = false := by simpa using h
  rw [spl, e]; rfl
theorem spl_word : ∀ (p a r : List UInt8), 32 ∉ p → spl a (p ++ 32 :: r) = (a ++ p) :: spl [] r
  | [], a, r, _ => by rw [List.nil_append, spl_hit, List.append_nil]
  | c :: p, a, r, h => by
    rw [List.cons_append, spl_miss _ _ (fun e => h (by simp [e])), spl_word p _ r (fun e => h (by simp [e])), List.append_assoc]; rfl
theorem spl_last : ∀ (p a : List UInt8), 32 ∉ p → spl a p = [a ++ p]
  | [], a, _ => by rw [spl, List.append_nil]
  | c :: p, a, h => by
    rw [spl_miss _ _ (fun e => h (by simp [e])), spl_last p _ (fun e => h (by simp [e])), List.append_assoc]; rfl
theorem spl_len : ∀ (s a : List UInt8), (spl a s).length = s.count 32 + 1
  | [], a => by simp [spl]
  | c :: r, a => by
    by_cases h : c = 32
    · subst h; rw [spl_hit, List.count_cons_self, List.length_cons, spl_len]
    · rw [spl_miss _ _ h, List.count_cons_of_ne (by simpa using h), spl_len]
theorem spl_size : ∀ (s a : List UInt8), ∀ p ∈ spl a s, p.length ≤ a.length + s.length
  | [], a, p, hp => by rw [spl] at hp; rw [List.mem_singleton.1 hp]; simp
  | c :: r, a, p, hp => by
    by_cases h : c = 32
    · subst h
      rw [spl_hit] at hp
      rcases List.mem_cons.1 hp with e | e
      · rw [e]; simp
      · have := spl_size r [] p e
        simp only [List.length_nil, List.length_cons] at *; omega
    · rw [spl_miss _ _ h] at hp
      have := spl_size r _ p hp
      simp only [List.length_append, List.length_cons, List.length_nil] at *; omega
theorem indexByte_sp : ∀ (a r : List UInt8), 32 ∉ a → Lib.indexByte (a ++ 32 :: r) 32 = a.length
  | [], r, _ => by simp [Lib.indexByte]
  | b :: a, r, h => by
    have h1 : b ≠ 32 := fun e => h (by simp [e])
    have h2 : (b == 32) = false := by simpa using h1
    have ih := indexByte_sp a r (fun e => h (by simp [e]))
    rw [List.cons_append, Lib.indexByte, h2, ih]
    have h3 : ((a.length : Int) == -1) = false := by rw [beq_eq_false_iff_ne]; omega
    rw [h3]
    simp
theorem splitK_spl : ∀ (s a : List UInt8), 32 ∉ a → Lib.splitK [32] 0 (s.count 32) (a ++ s) = spl a s
  | [], a, _ => by simp [spl, Lib.splitK]
  | c :: r, a, ha => by
    by_cases h : c = 32
    · subst h
      rw [spl_hit, List.count_cons_self, Lib.splitK, Lib.index_one, indexByte_sp a r ha]
      have h3 : ((a.length : Int) == -1) = false := by rw [beq_eq_false_iff_ne]; omega
      rw [h3]
      have e1 : (a ++ 32 :: r).take (((a.length : Int)).toNat + 0) = a := by
        rw [Int.toNat_natCast, Nat.add_zero, List.take_left']
        rfl
      have e2 : (a ++ 32 :: r).drop (((a.length : Int)).toNat + ([32] : List UInt8).length) = r := by
        rw [Int.toNat_natCast, List.drop_append]; simp
      have ih := splitK_spl r [] (by simp)
      rw [List.nil_append] at ih
      simp only [Bool.false_eq_true, if_false]
      rw [e1, e2, ih]
    · rw [spl_miss _ _ h, List.count_cons_of_ne (by simpa using h)]
      have ih := splitK_spl r (a ++ [c]) (by simp [ha, Ne.symm h])
      rw [List.append_assoc] at ih
      exact ih
theorem splitB_spl (s : ByteArray) : Lib.splitB ⟨#[32]⟩ 0 (Lib.countByte s.data.toList 32) s = (spl [] s.data.toList).map bs := by
  have h := Lib.splitB_data ⟨#[32]⟩ 0 (Lib.countByte s.data.toList 32) s
  have e := splitK_spl s.data.toList [] (by simp)
  rw [List.nil_append] at e
  have h2 : (Lib.splitB ⟨#[32]⟩ 0 (Lib.countByte s.data.toList 32) s).map (·.data.toList) = spl [] s.data.toList := h.trans e
  rw [← h2, List.map_map]
  conv => lhs; rw [← List.map_id (Lib.splitB ⟨#[32]⟩ 0 (Lib.countByte s.data.toList 32) s)]
  exact List.map_congr_left fun b _ => (bs_data b).symm
/-- strings.Split at each sign 32 -/
def splQ : List MV → Option MV
  | [.str s, .str c] => if c.data.toList = [32] ∧ s.size ≤ 2000000 then some (.sl ((spl [] s.data.toList).map fun x => [.str (bs x)])) else none
  | _ => none
/-- strconv.Atoi, of whatever text -/
def atoaQ : List MV → Option MV
  | [.str s] => if s.size ≤ 2000000 then (match Lib.atoiAll s.data.toList with
    | .ok v => some (.tup [.int .i64 v, .iface true])
    | .range => some (.tup [.int .i64 (Lib.atoiSat s.data.toList), .iface false])
    | _ => some (.tup [.int .i64 0, .iface false])) else none
  | _ => none
end Kw
