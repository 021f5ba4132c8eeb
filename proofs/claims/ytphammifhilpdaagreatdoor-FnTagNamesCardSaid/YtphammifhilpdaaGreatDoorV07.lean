import Derived.Test.YtphammifhilpdaaGreatDoorV06
import Derived.Test.YtphammifhilpdaaGreatDoorV01
import Derived.Laws.Strings
import Derived.IntWalk
import Derived.Lib.Split
import Derived.Lib.IndexBytes
import Derived.Lib.SplitLaws
import Derived.Lib.Atoi
import Derived.KernelRfl
import Derived.Test.YtphammifhilpdaaGreatDoorProg
namespace Kw
open Go
section
variable {E : Env} {run : Run} {all : Array Oper}
theorem sim_ext {fr fr' : Fr} {g : G} {tmps : Array Value} {w : World} (S : Sim fr g tmps w) (x : Ext fr fr') (hk : (fr'.ob.map (·.1)).Nodup) : Sim fr' g tmps w := by
  have hc : cur fr'.ob = cur fr.ob := funext fun h => by unfold cur; rw [(x.2 h).1]
  refine ⟨by rw [← x.1]; exact S.size, fun t v m h1 h2 => by rw [hc]; exact S.slot t v m h1 (by rw [x.1]; exact h2), hk, fun h => (S.o.abs h).trans (not_congr (x.2 h).2), fun h o hm => ?_, S.o.inj, S.o.lt, S.o.plt⟩
  have hm' : h ∈ fr.ob.map (·.1) := (x.2 h).2.2 (List.mem_map_of_mem (f := (·.1)) hm)
  have := S.o.obj h _ (mem_of_look hm')
  rw [(x.2 h).1, look_of_mem hk hm] at this
  rw [hc]; exact this
theorem wants_sim {o : Oper} {fr : Fr} {g : G} {tmps : Array Value} {w : World} (S : Sim fr g tmps w) {b : Bool} (h : WantsIs all o fr b) : Region.wanted o (yielded all tmps) = b := by
  unfold WantsIs at h
  unfold Region.wanted
  split at h
  · rename_i hg; rw [hg]; exact h.symm
  · rename_i j want hg
    obtain ⟨d, hd, ⟨hs, e⟩ | ⟨v, hv, e⟩⟩ := h
    · rw [hg]
      have ht := sim_skip S hs
      have hy : yielded all tmps j = none := by unfold yielded; rw [hd]; simp [ht, undef]
      simp only [hy]
      rw [e]; rfl
    rw [hg]
    have ht := sim_guard S hv
    have hy : yielded all tmps j = some v := by unfold yielded; rw [hd]; simp [ht]
    simp only [hy]
    rw [e]; cases v <;> cases want <;> rfl
theorem anyF_wp {T : Nat → Fp} {e : Fr} (hke : (e.ob.map (·.1)).Nodup) {Q : Exit → Act → World → Prop} (hask : ∀ (i : Nat) (o : Oper), all[i]? = some o → Ask E run o Q) : ∀ (n : Nat) {listed : Array Bool} {fr : Fr} {g : G} {a : Act} {w : World},
    AnyF E run all T e n listed fr → Sim fr g a.tmps w → (∀ a' w', a'.defers = a.defers → (∃ g', Sim e g' a'.tmps w' ∧ Fm g w g' w') → Q .normal a' w') → wpAny E.P .any all Q n listed a w
  | 0, listed, fr, g, a, w, h, S, hQ => ⟨h.1, hQ a w rfl ⟨g, sim_ext S h.2 hke, Fm.refl _ _⟩⟩
  | n + 1, listed, fr, g, a, w, h, S, hQ => by
    refine ⟨fun h0 => hQ a w rfl ⟨g, sim_ext S (h.1 h0) hke, Fm.refl _ _⟩, fun i hi => ?_⟩
    obtain ⟨o, ho, fr1, s, h'⟩ := h.2 i hi
    unfold wpOp
    simp only [ho]
    cases s with
    | ex hw l hp =>
      rw [wants_sim S hw]
      simp only [if_true]
      obtain ⟨m, _, _, hev, _⟩ := l
      refine .inl (Oper.wp_mono (fun a' w' hg => ?_) (hask i o ho (r := fr1) (k := some) (hev _ some) S))
      obtain ⟨hd, fr', g', hk, S', F⟩ := hg
      cases hk
      exact anyF_wp hke hask n h' S' fun a'' w'' hd' ⟨g'', S'', F'⟩ => hQ a'' w'' (hd'.trans hd) ⟨g'', S'', F.trans F'⟩
    | sk hw h1 hp =>
      rw [wants_sim S hw]
      simp only [Bool.false_eq_true, if_false]
      subst h1
      obtain ⟨hd, fr', g', hk, S', F⟩ := good_fin (k := some) (g := g) (w := w) (a := a) (dst := o.dst) (v := undef) (m := .tup []) rfl S rv_skip (Fm.refl _ _)
      cases hk
      exact anyF_wp hke hask n h' S' fun a'' w'' hd' ⟨g'', S'', F'⟩ => hQ a'' w'' (hd'.trans hd) ⟨g'', S'', F.trans F'⟩
theorem set_get {fr : Fr} {d : Nat} {m : MV} (h : fr.get d = m) (hu : m ≠ .undef) : fr.set d m = fr := by
  have hlt : d < fr.sl.length := by
    rcases Nat.lt_or_ge d fr.sl.length with h' | h'
    · exact h'
    · unfold Fr.get at h
      rw [List.getD_eq_getElem?_getD, List.getElem?_eq_none h'] at h
      exact absurd h.symm hu
  have : fr.sl.set d m = fr.sl := by
    apply List.ext_getElem?
    intro i
    by_cases e : d = i
    · subst e
      rw [List.getElem?_set_self hlt]
      unfold Fr.get at h
      rw [List.getD_eq_getElem?_getD, List.getElem?_eq_getElem hlt] at h
      rw [List.getElem?_eq_getElem hlt, ← h]; rfl
    · rw [List.getElem?_set_ne e]
  unfold Fr.set; rw [this]
theorem nodupH_ok : ∀ {l : List H}, nodupH l = true → l.Nodup
  | [], _ => .nil
  | h :: hs, e => by
    unfold nodupH at e
    simp only [Bool.and_eq_true, Bool.not_eq_true'] at e
    refine List.nodup_cons.2 ⟨fun hm => ?_, nodupH_ok e.2⟩
    rw [List.any_eq_false] at e
    exact e.1 h hm (by simp)
theorem evOpsD_chain {R : Type} {r : R} {k : Fr → Option R} : ∀ (os : List Oper) (ps : List Fp) (fr : Fr), evOpsD E run all os ps fr k = some r → ∃ qs e, Chain E run all os fr qs e ∧ k e = some r ∧ (anyApart all (ps.reverse ++ qs) = true ∧ (e.ob.map (·.1)).Nodup)
  | [], ps, fr, h => by
    unfold evOpsD at h
    split at h
    · rename_i ha
      simp only [Bool.and_eq_true] at ha
      exact ⟨[], fr, .nil fr, h, by rw [List.append_nil]; exact ha.1, nodupH_ok ha.2⟩
    · simp at h
  | o :: os, ps, fr, h => by
    unfold evOpsD at h
    have go : ∀ {fr1 : Fr} {p : Fp}, Stp E run all o fr fr1 p → evOpsD E run all os (p :: ps) fr1 k = some r → ∃ qs e, Chain E run all (o :: os) fr qs e ∧ k e = some r ∧ (anyApart all (ps.reverse ++ qs) = true ∧ (e.ob.map (·.1)).Nodup) := fun s h => by
      obtain ⟨qs, e, c, hk, ha⟩ := evOpsD_chain os _ _ h
      exact ⟨_, e, .cons s c, hk, by simpa using ha.1, ha.2⟩
    split at h
    · rename_i hg
      split at h
      · rename_i hok
        obtain ⟨fr1, h, l⟩ := loc_op hok h
        exact go (.ex (by unfold WantsIs; rw [hg]) l rfl) h
      · simp at h
    · rename_i j want hg
      split at h
      · rename_i d hd
        split at h
        · rename_i hsk
          exact go (.sk (by unfold WantsIs; rw [hg]; exact ⟨d, hd, .inl ⟨hsk, rfl⟩⟩) rfl rfl) h
        obtain ⟨b, hb, h⟩ := bnd_some h
        have hb' := gBool_some hb
        rcases br_some h with ⟨hc, hq⟩ | ⟨hc, hq⟩
        · have e : b = want := by cases want <;> cases b <;> simp_all [bNot]
          subst e
          rw [set_get hb' (by simp)] at hq
          split at hq
          · rename_i hok
            obtain ⟨fr1, hq, l⟩ := loc_op hok hq
            exact go (.ex (by unfold WantsIs; rw [hg]; exact ⟨d, hd, .inr ⟨b, hb', by cases b <;> rfl⟩⟩) l rfl) hq
          · simp at hq
        · have e : b = !want := by cases want <;> cases b <;> simp_all [bNot]
          subst e
          rw [set_get hb' (by simp)] at hq
          exact go (.sk (by unfold WantsIs; rw [hg]; exact ⟨d, hd, .inr ⟨!want, hb', by cases want <;> rfl⟩⟩) rfl rfl) hq
      · simp at h
theorem hits_of {p : Fp} {h : H} (x : p.wrt h) : p.hits h = true := by
  unfold Fp.hits
  rcases x with x | ⟨d, j, e, eh⟩
  · simp [x]
  · subst eh; rw [e]; simp
theorem apart_of {p q : Fp} (h : p.apart q = true) (x : H) : (p.wrt x → ¬ q.tch x) ∧ (q.wrt x → ¬ p.tch x) := by
  unfold Fp.apart at h
  simp only [Bool.and_eq_true, List.all_eq_true, Bool.not_eq_true'] at h
  obtain ⟨h1, h2, h3, h4, h5⟩ := h
  have hh : ∀ {p q : Fp}, (∀ x ∈ q.rd, p.hits x = false) → (∀ x ∈ q.wr, p.hits x = false) → (∀ x ∈ p.wr, q.hits x = false) → (∀ a b, p.fam = some a → q.fam = some b → a ≠ b) → p.wrt x → ¬ q.tch x := fun g1 g2 g3 g4 hp hq => by
    have hp' := hits_of hp
    rcases hq with y | y | ⟨d, j, e, ex⟩
    · rw [g1 x y] at hp'; cases hp'
    · rw [g2 x y] at hp'; cases hp'
    · rcases hp with z | ⟨d', j', e', ex'⟩
      · have := g3 x z
        unfold Fp.hits at this
        subst ex; rw [e] at this; simp at this
      · rw [ex] at ex'; cases ex'
        exact g4 d d e' e rfl
  have hfam : ∀ a b, p.fam = some a → q.fam = some b → a ≠ b := fun a b e1 e2 => by
    rw [e1, e2] at h5; simpa using h5
  exact ⟨hh h1 h2 h4 hfam, hh h3 h4 h2 fun a b e1 e2 => (hfam b a e2 e1).symm⟩
theorem empty_of {p : Fp} (h : p.empty = true) : p = ⟨[], [], none⟩ := by
  unfold Fp.empty at h
  split at h
  · rfl
  · cases h
theorem idxFp_mem : ∀ (ps : List Fp) (n i : Nat) (p : Fp), ps[i]? = some p → p.empty = false → (p, n + i) ∈ idxFp ps n
  | [], n, i, p, h, _ => by simp at h
  | a :: ps, n, i, p, h, he => by
    unfold idxFp
    cases i with
    | zero =>
      simp at h; subst h
      rw [he]; simp
    | succ i =>
      have := idxFp_mem ps (n + 1) i p (by simpa using h) he
      have e : n + 1 + i = n + (i + 1) := by omega
      rw [e] at this
      split
      · exact this
      · exact List.mem_cons_of_mem _ this
theorem idxFp_ge : ∀ (ps : List Fp) (n : Nat) (x : Fp × Nat), x ∈ idxFp ps n → n ≤ x.2
  | [], n, x, h => by simp [idxFp] at h
  | a :: ps, n, x, h => by
    unfold idxFp at h
    split at h
    · have := idxFp_ge ps (n + 1) x h; omega
    · rcases List.mem_cons.1 h with e | h
      · subst e; exact Nat.le_refl _
      · have := idxFp_ge ps (n + 1) x h; omega
theorem idxFp_sorted : ∀ (ps : List Fp) (n : Nat), (idxFp ps n).Pairwise (fun x y => x.2 < y.2)
  | [], n => .nil
  | a :: ps, n => by
    unfold idxFp
    split
    · exact idxFp_sorted ps (n + 1)
    · exact .cons (fun y hy => by have := idxFp_ge ps (n + 1) y hy; omega) (idxFp_sorted ps (n + 1))
theorem apartAll_of {p : Fp} {i : Nat} : ∀ {qs : List (Fp × Nat)}, apartAll all p i qs = true → ∀ x ∈ qs, p.apart x.1 = true ∨ pathB all 6 i x.2 = true
  | [], _, x, hx => by simp at hx
  | (q, j) :: qs, h, x, hx => by
    simp only [apartAll, Bool.and_eq_true, Bool.or_eq_true] at h
    rcases List.mem_cons.1 hx with e | hx
    · subst e; exact h.1
    · exact apartAll_of h.2 x hx
theorem apartPs_of : ∀ {ps : List (Fp × Nat)}, apartPs all ps = true → ps.Pairwise fun x y => x.1.apart y.1 = true ∨ pathB all 6 x.2 y.2 = true
  | [], _ => .nil
  | (p, i) :: ps, h => by
    simp only [apartPs, Bool.and_eq_true] at h
    exact .cons (fun y hy => apartAll_of h.1 y hy) (apartPs_of h.2)
theorem apart_empty {q : Fp} (p : Fp) (h : q.empty = true ∨ p.empty = true) (x : H) : (p.wrt x → ¬ q.tch x) ∧ (q.wrt x → ¬ p.tch x) := by
  have hno : ∀ {a : Fp}, a.empty = true → (¬ a.wrt x) ∧ ¬ a.tch x := fun {a} ha => by
    rw [empty_of ha]
    constructor
    · rintro (y | ⟨d, j, y, _⟩)
      · simp at y
      · cases y
    · rintro (y | y | ⟨d, j, y, _⟩)
      · simp at y
      · simp at y
      · cases y
  rcases h with h | h
  · exact ⟨fun _ => (hno h).2, fun hq => absurd hq (hno h).1⟩
  · exact ⟨fun hp => absurd hp (hno h).1, fun _ => (hno h).2⟩
theorem pairwise_idx {A : Type} {R : A → A → Prop} : ∀ {l : List A}, l.Pairwise R → ∀ (f : A → Nat), l.Pairwise (fun x y => f x < f y) → ∀ x ∈ l, ∀ y ∈ l, f x < f y → R x y
  | [], _, f, _, x, hx, y, hy, _ => by simp at hx
  | a :: l, hp, f, hs, x, hx, y, hy, hlt => by
    cases hp with
    | cons h1 h2 =>
      cases hs with
      | cons s1 s2 =>
        rcases List.mem_cons.1 hx with e | hx1 <;> rcases List.mem_cons.1 hy with e' | hy1
        · subst e; subst e'; omega
        · rw [e]; exact h1 y hy1
        · have := s1 x hx1; rw [← e'] at this; omega
        · exact pairwise_idx h2 f s2 x hx1 y hy1 hlt
theorem path_of : ∀ (f : Nat) {i j : Nat}, pathB all f i j = true → Path all i j
  | 0, i, j, h => by simp [pathB] at h
  | f + 1, i, j, h => by
    unfold pathB at h
    split at h
    · rename_i oj hj
      rw [← Array.any_toList] at h
      obtain ⟨e, he, hb⟩ := List.any_eq_true.1 h
      simp only [Bool.and_eq_true, Bool.or_eq_true, beq_iff_eq] at hb
      rcases hb.2 with h' | h'
      · exact .one hj (by simpa using he) hb.1 h'
      · exact .more (path_of f h'.2) hj (by simpa using he) hb.1 rfl
    · cases h
theorem anyApart_of {ps : List Fp} (h : anyApart all ps = true) (i j : Nat) (p q : Fp) (oj : Oper) (hi : ps[i]? = some p) (hj : ps[j]? = some q) (hoj : all[j]? = some oj) (hij : i < j) (hno : ¬ Path all i j) (x : H) : (p.wrt x → ¬ q.tch x) ∧ (q.wrt x → ¬ p.tch x) := by
  unfold anyApart at h
  by_cases hp : p.empty = true
  · exact apart_empty p (.inr hp) x
  · by_cases hq : q.empty = true
    · exact apart_empty p (.inl hq) x
    · have m1 := idxFp_mem ps 0 i p hi (by simpa using hp)
      have m2 := idxFp_mem ps 0 j q hj (by simpa using hq)
      have := pairwise_idx (apartPs_of h) (·.2) (idxFp_sorted ps 0) _ m1 _ m2 (by simp; exact hij)
      simp only [Nat.zero_add] at this
      rcases this with y | y
      · exact apart_of y x
      · exact absurd (path_of 6 y) hno
theorem chain_len {os : List Oper} {fr e : Fr} {ps : List Fp} (h : Chain E run all os fr ps e) : ps.length = os.length := by
  induction h with
  | nil => rfl
  | cons _ _ ih => simp [ih]
/-- a region of any order -/
theorem regOk_draw {id : Nat} {ops : Array Oper} (hm : E.P.follows .mixedOrders = true) (hB : Region.lexB .any ops = true) (hask : ∀ (i : Nat) (o : Oper) (Q : Exit → Act → World → Prop), ops[i]? = some o → Ask E run o Q) : RegOk E run id ops true := by
  intro R r k fr g a w h S
  simp only [if_true] at h
  obtain ⟨g1, S1, F1⟩ := kill_sim S (layers ops.toList)
  obtain ⟨qs, e, hc, hk, hap⟩ := evOpsD_chain _ _ _ h
  obtain ⟨hap, hnd⟩ := hap
  simp only [List.reverse_nil, List.nil_append] at hap
  refine wp_region_any hm ?_
  unfold Region.lexB at hB
  simp only [Bool.and_eq_true] at hB
  have hlen := chain_len hc
  have hA : AnyF E run ops (fun i => (qs[i]?).getD ⟨[], [], none⟩) e ops.toList.length (Array.replicate ops.size false) (fr.kill (layers ops.toList)) :=
    anyF_lex ops.toList qs 0 _ _ (by simp) (fun j p hj => by simp only [Nat.zero_add, hj]; rfl) (by simpa using hB.2) (fun j hj => by omega) (by simp) (fun k ok _ hl => by
      exfalso
      rcases Nat.lt_or_ge k ops.size with h' | h'
      · simp [h'] at hl
      · simp [Array.getElem?_eq_none h', Nat.not_lt.2 h'] at hl) (fun i j oi oj hi hj hij hno => by
      have hil : i < qs.length := by rw [hlen]; simpa using (Array.getElem?_eq_some_iff.1 hi).1
      have hjl : j < qs.length := by rw [hlen]; simpa using (Array.getElem?_eq_some_iff.1 hj).1
      have e1 : qs[i]? = some (qs[i]'hil) := List.getElem?_eq_getElem hil
      have e2 : qs[j]? = some (qs[j]'hjl) := List.getElem?_eq_getElem hjl
      simp only [e1, e2, Option.getD_some]
      exact anyApart_of hap i j _ _ oj e1 e2 hj hij hno) hc
  have hdr : Sim (fr.kill (layers ops.toList)) g1 a.tmps { w with drawn := w.drawn + 1 } := sim_world S1 (fun _ _ => rfl) (Nat.le_refl _)
  have hA' : AnyF E run ops (fun i => (qs[i]?).getD ⟨[], [], none⟩) e ops.size (Array.replicate ops.size false) (fr.kill (layers ops.toList)) := by simpa using hA
  refine anyF_wp hnd (fun i o ho => hask i o _ ho) ops.size hA' hdr fun a' w' hd ⟨g', S', F'⟩ => ?_
  refine ⟨.normal, rfl, hd, e, g', hk, S', F1.trans ?_⟩
  exact ⟨F'.os, F'.tape, F'.output, F'.size, F'.heap, F'.own, F'.prot, F'.prot', F'.imp⟩
theorem ask_ok (hrun : RunOk E.P run) (o : Oper) (Q : Exit → Act → World → Prop) : Ask E run o Q :=
  evOp_ok (fun _ _ ho hc => call_ok hrun ho hc) (fun _ _ _ _ _ ho ha => seq_ok ho ha)
/-- each region of any order is written in an order that it allows -/
def lexAll : Code → Bool
  | .region _ ops d => !d || Region.lexB .any ops
  | .seq a b => lexAll a && lexAll b
  | .cond _ a b => lexAll a && lexAll b
  | .block _ c => lexAll c
  | .loop c => lexAll c
  | _ => true
theorem regs_ok (hm : E.P.follows .mixedOrders = true) (hrun : RunOk E.P run) : ∀ c : Code, lexAll c = true → AllReg (RegOk E run) c
  | .region id ops d, h => by
    cases d with
    | true => exact regOk_draw hm (by simpa [lexAll] using h) fun i o Q _ => ask_ok hrun o Q
    | false => exact regOk_plain fun i o Q _ => ask_ok hrun o Q
  | .seq a b, h => by
    simp only [lexAll, Bool.and_eq_true] at h
    exact ⟨regs_ok hm hrun a h.1, regs_ok hm hrun b h.2⟩
  | .cond _ a b, h => by
    simp only [lexAll, Bool.and_eq_true] at h
    exact ⟨regs_ok hm hrun a h.1, regs_ok hm hrun b h.2⟩
  | .block _ c, h => regs_ok hm hrun c h
  | .loop c, h => regs_ok hm hrun c h
  | .skip, _ => trivial
  | .exit _, _ => trivial
  | .ret, _ => trivial
  | .label _, _ => trivial
  | .goto _, _ => trivial
  | .rangeFunc _ _ _ _, _ => trivial
  | .scope _, _ => trivial
  | .refuse _, _ => trivial
/-- WHAT THE EVALUATOR ANSWERS IS WHAT THE PROGRAM DOES. -/
theorem sound {L : Nat} (hm : E.P.follows .mixedOrders = true) (hname : ∀ (f : FuncId) (fn : Func), E.P.funcs[f]? = some fn → (fn.name == "runtime.NumGoroutine") = false)
    (hlex : ∀ (f : FuncId) (fn : Func) (c : Code), E.P.funcs[f]? = some fn → fn.body = some c → E.okf f = true → lexAll c = true)
    (hext : ∀ f q, E.ext f = some q → RunOk E.P fun f' args imps => if f' = f then (q args).map fun m => (m, imps) else none) (D : Nat) : RunOk E.P (ev E L D) :=
  ev_ok hname (fun _ hrun f fn c hf hc ho => regs_ok hm hrun c (hlex f fn c hf hc ho)) hext D
end
end Kw
namespace Kw
open Go Go.RowKit
/-- all memory that is there -/
def there (w : World) : Nat → Prop := fun b => b < w.heap.size
/-- a call of plain values whose answer is a bool -/
theorem law_of {E : Env} {L D : Nat} (hs : RunOk E.P (ev E L D)) {f : FuncId} {args : List MV} {vals : Array Value} {W : World} {b : Bool} (he : ev E L D f args [] = some (.bool b, []))
    (hv : Rl (fun v m => SV W (there W) v m) vals.toList args) (hc : (callFunc f vals).run E.P W = .ok (.enter f vals) W) :
    Calls E.P f vals W fun e w' => e = .returned (.bool b) ∧ Below W.heap.size W w' := by
  have hrl : Rl (RV (gB [] (there W)) (cuB []) W) vals.toList args := hv.mono fun v m h => .sv h
  have p : Pre [] (there W) W vals.toList args [] [] [] := ⟨bvs_of_rl hrl, .nil, .nil, fun b hb => by simp [blks] at hb, fun b hb => hb⟩
  have h := hs he p
  unfold UponF at h
  rw [hc] at h
  refine h.mono fun e w' ⟨v, ev, ex, prot', fa', fo', hR, _, _, _, _, K⟩ => ?_
  subst ev
  refine ⟨?_, K.os, K.tape, K.output, K.size, fun k hk => K.heap k hk (by simp [blks])⟩
  congr 1
  cases hR with
  | one h _ => exact rv_bool (scal_rv (g1 := gB [] (there W)) (cu1 := cuB []) (w1 := W) h rfl)
/-- bytes in memory -/
theorem sv_bytes {W : World} {prot : Nat → Prop} {ad : Addr} {n c : Nat} (hs : ad.spot = none) (hp : prot ad.block) (hc : n ≤ c) (l : List UInt8) (hl : l.length = n)
    (h : ∀ (i : Nat) (x : UInt8), l[i]? = some x → W.cell? ⟨ad.block, ad.off + i, none⟩ = some (.int .u8 x.toNat)) :
    SV W prot (.slice (some ad) n c) (.sl (l.map fun x => [.int .u8 x.toNat])) := by
  refine .sl 1 (fun i _ => .int .u8 (((l[i]?).getD 0).toNat : Nat)) (by simp [hl]) hc (fun i row hi => ?_) (fun _ => ⟨ad, rfl, hs, hp, fun i row j m hi hj => ?_⟩) (fun i row j m hi hj => ?_)
  · rw [List.getElem?_map] at hi
    obtain ⟨x, _, e⟩ := Option.map_eq_some_iff.1 hi
    rw [← e]; rfl
  · rw [List.getElem?_map] at hi
    obtain ⟨x, hx, e⟩ := Option.map_eq_some_iff.1 hi
    subst e
    cases j with
    | zero =>
      have := h i x hx
      simp only [Nat.mul_one, Nat.add_zero, hx, Option.getD_some]
      exact this
    | succ j => simp at hj
  · rw [List.getElem?_map] at hi
    obtain ⟨x, hx, e⟩ := Option.map_eq_some_iff.1 hi
    subst e
    cases j with
    | zero => simp at hj; subst hj; simp only [hx, Option.getD_some]; exact .int _ _
    | succ j => simp at hj
end Kw
namespace Kw
open Go Go.RowKit
/-- values that are told whole -/
def MV.im : MV → Bool | .bool _ | .int _ _ | .str _ | .sl _ | .iface _ => true | _ => false
section
variable {g : G} {cu : H → Int} {w : World} {f : List Nat}
theorem BV.im {v : Value} {m : MV} (h : BV g cu w v m f) (hm : m.im = true) : f = [] ∧ SV w g.prot v m := by
  cases h with
  | one h =>
    cases h with
    | rv h =>
      cases h <;> first | (cases hm; done) | skip
      rename_i h
      exact ⟨rfl, h⟩
    | own0 => cases hm
    | own => cases hm
  | agg => cases hm
theorem BVs.im {vs : List Value} {ms : List MV} (h : BVs g cu w vs ms f) (hm : ms.all MV.im = true) : f = [] ∧ Rl (fun v m => SV w g.prot v m) vs ms := by
  induction h with
  | nil => exact ⟨rfl, .nil⟩
  | cons h _ ih =>
    simp only [List.all_cons, Bool.and_eq_true] at hm
    obtain ⟨e1, s1⟩ := h.im hm.1
    obtain ⟨e2, s2⟩ := ih hm.2
    exact ⟨by rw [e1, e2]; rfl, .cons s1 s2⟩
/-- a result that is told whole: one value, or several -/
inductive ImR (w : World) (prot : Nat → Prop) : Value → MV → Prop
  | one {v : Value} {m : MV} (h : SV w prot v m) (hm : m.im = true) : ImR w prot v m
  | tup {vs : Array Value} {ms : List MV} (h : Rl (fun v m => SV w prot v m) vs.toList ms) : ImR w prot (.tuple vs) (.tup ms)
/-- a contract for a function of the library -/
theorem ext_ok {P : Program} {f : FuncId} {q : List MV → Option MV} (hq : ∀ args m, q args = some m → args.all MV.im = true)
    (hcall : ∀ (args : List MV) (m : MV), q args = some m → ∀ (vals : Array Value) (w : World) (prot : Nat → Prop), (∀ b, prot b → b < w.heap.size) → Rl (fun v m => SV w prot v m) vals.toList args → UponF P f vals w fun v w' => ImR w' prot v m ∧ Below w.heap.size w w') :
    RunOk P fun f' args imps => if f' = f then (q args).map fun m => (m, imps) else none := by
  intro f' args imps res vals w gs prot fa fo h p
  simp only at h
  split at h
  case isFalse => simp at h
  rename_i ef
  subst ef
  obtain ⟨m, hm, e⟩ := Option.map_eq_some_iff.1 h
  subst e
  obtain ⟨efa, hv⟩ := p.vs.im (hq args m hm)
  subst efa
  refine (hcall args m hm vals w prot p.plt hv).mono fun v w' ⟨hI, hB⟩ => ?_
  have hblk : ∀ b, b < w.heap.size → w'.heap[b]? = w.heap[b]? := fun b hb => hB.block b hb
  have L : Later (gB gs prot) (gB gs prot) (cuB imps) (cuB imps) w w' :=
    ⟨fun _ _ e => .inl e, fun _ _ _ _ e => .inr ⟨Int.le_refl _, .inl e⟩, fun _ e => .inr ⟨Int.le_refl _, .inl e⟩, fun _ e => e, fun _ h => h, fun b hp => hblk b (p.plt b hp)⟩
  refine ⟨[], prot, [], fo, ?_, ?_, ?_, ?_, fun b hp => Nat.lt_of_lt_of_le (p.plt b hp) hB.size, ?_⟩
  · rw [List.append_nil]
    cases hI with
    | one h1 hm1 => exact .one (.one (.rv (.sv h1))) (fun ms e => by simp only at e; rw [e] at hm1; cases hm1)
    | tup h1 => exact .tup (bvs_of_rl (h1.mono fun _ _ hx => .sv hx))
  · rw [List.append_nil]
    exact p.os.mono L (fun b hb => ⟨hblk b (p.lt b (by simp [hb])), p.os.np b hb⟩) fun x hx b e => ⟨hblk b (p.lt b (List.mem_append_right _ (mem_blks.2 ⟨x, hx, e⟩))), id⟩
  · rw [List.append_nil]; exact p.nod
  · rw [List.append_nil]; exact fun b hb => Nat.lt_of_lt_of_le (p.lt b hb) hB.size
  · rw [List.append_nil]
    exact ⟨hB.os, hB.tape, hB.output, hB.size, fun b hb _ => hblk b hb, fun b hb => .inr hb, fun _ h => h, fun _ h => .inl h⟩
theorem upon_calls {P : Program} {f : FuncId} {vals : Array Value} {w : World} {R : Value → World → Prop} (hc : (callFunc f vals).run P w = .ok (.enter f vals) w) (h : Calls P f vals w fun e w' => ∃ v, e = .returned v ∧ R v w') : UponF P f vals w R := by
  unfold UponF
  rw [hc]
  exact h
end
end Kw
namespace Kw
open Go Go.RowKit
/-- memory that nobody writes, and what was laid since -/
def laidP (prot : Nat → Prop) (w w' : World) : Nat → Prop := fun b => prot b ∨ (w.heap.size ≤ b ∧ b < w'.heap.size)
/-- a contract for a function that hands back what lies in new memory -/
theorem ext_ok2 {P : Program} {f : FuncId} {q : List MV → Option MV} (hq : ∀ args m, q args = some m → args.all MV.im = true)
    (hcall : ∀ (args : List MV) (m : MV), q args = some m → ∀ (vals : Array Value) (w : World) (prot : Nat → Prop), (∀ b, prot b → b < w.heap.size) → Rl (fun v m => SV w prot v m) vals.toList args → UponF P f vals w fun v w' => ImR w' (laidP prot w w') v m ∧ Below w.heap.size w w') :
    RunOk P fun f' args imps => if f' = f then (q args).map fun m => (m, imps) else none := by
  intro f' args imps res vals w gs prot fa fo h p
  simp only at h
  split at h
  case isFalse => simp at h
  rename_i ef
  subst ef
  obtain ⟨m, hm, e⟩ := Option.map_eq_some_iff.1 h
  subst e
  obtain ⟨efa, hv⟩ := p.vs.im (hq args m hm)
  subst efa
  refine (hcall args m hm vals w prot p.plt hv).mono fun v w' ⟨hI, hB⟩ => ?_
  have hblk : ∀ b, b < w.heap.size → w'.heap[b]? = w.heap[b]? := fun b hb => hB.block b hb
  have L : Later (gB gs prot) (gB gs (laidP prot w w')) (cuB imps) (cuB imps) w w' :=
    ⟨fun _ _ e => .inl e, fun _ _ _ _ e => .inr ⟨Int.le_refl _, .inl e⟩, fun _ e => .inr ⟨Int.le_refl _, .inl e⟩, fun _ e => e, fun _ h => .inl h, fun b hp => hblk b (p.plt b hp)⟩
  have hnp : ∀ b, b < w.heap.size → ¬ prot b → ¬ laidP prot w w' b := fun b hb hn h => h.elim hn fun h => absurd h.1 (by omega)
  refine ⟨[], laidP prot w w', [], fo, ?_, ?_, ?_, ?_, fun b hp => hp.elim (fun hp => Nat.lt_of_lt_of_le (p.plt b hp) hB.size) fun h => h.2, ?_⟩
  · rw [List.append_nil]
    cases hI with
    | one h1 hm1 => exact .one (.one (.rv (.sv h1))) (fun ms e => by simp only at e; rw [e] at hm1; cases hm1)
    | tup h1 => exact .tup (bvs_of_rl (h1.mono fun _ _ hx => .sv hx))
  · rw [List.append_nil]
    exact p.os.mono L (fun b hb => ⟨hblk b (p.lt b (by simp [hb])), hnp b (p.lt b (by simp [hb])) (p.os.np b hb)⟩) fun x hx b e => ⟨hblk b (p.lt b (List.mem_append_right _ (mem_blks.2 ⟨x, hx, e⟩))), hnp b (p.lt b (List.mem_append_right _ (mem_blks.2 ⟨x, hx, e⟩)))⟩
  · rw [List.append_nil]; exact p.nod
  · rw [List.append_nil]; exact fun b hb => Nat.lt_of_lt_of_le (p.lt b hb) hB.size
  · rw [List.append_nil]
    exact ⟨hB.os, hB.tape, hB.output, hB.size, fun b hb _ => hblk b hb, fun b hb => .inr hb, fun _ h => .inl h, fun _ h => h.elim .inl fun h => .inr (.inl h.1)⟩
/-- an own slice, new or empty -/
def OwnV (B : Nat) (prot : Nat → Prop) (w' : World) (v : Value) (rows : List Row) : Prop :=
  (rows = [] ∧ ∃ a, v = .slice a 0 0) ∨ ∃ b cap sz arr ty, v = .slice (some ⟨b, 0, none⟩) rows.length cap ∧ B ≤ b ∧ w'.heap[b]? = some (.cells arr ty (0, 0)) ∧ Room arr cap sz rows ∧ rows.length ≤ cap ∧ RowsR w' prot arr sz rows
/-- a contract for a function that hands back a new slice -/
theorem ext_ok3 {P : Program} {f : FuncId} {q : List MV → Option MV} (hq : ∀ args m, q args = some m → args.all MV.im = true)
    (hcall : ∀ (args : List MV) (m : MV), q args = some m → ∀ (vals : Array Value) (w : World) (prot : Nat → Prop), (∀ b, prot b → b < w.heap.size) → Rl (fun v m => SV w prot v m) vals.toList args → UponF P f vals w fun v w' => (∃ rows, m = .own rows ∧ OwnV w.heap.size prot w' v rows) ∧ Below w.heap.size w w') :
    RunOk P fun f' args imps => if f' = f then (q args).map fun m => (m, imps) else none := by
  intro f' args imps res vals w gs prot fa fo h p
  simp only at h
  split at h
  case isFalse => simp at h
  rename_i ef
  subst ef
  obtain ⟨m, hm, e⟩ := Option.map_eq_some_iff.1 h
  subst e
  obtain ⟨efa, hv⟩ := p.vs.im (hq args m hm)
  subst efa
  refine (hcall args m hm vals w prot p.plt hv).mono fun v w' ⟨⟨rows, em, hI⟩, hB⟩ => ?_
  subst em
  have hblk : ∀ b, b < w.heap.size → w'.heap[b]? = w.heap[b]? := fun b hb => hB.block b hb
  have L : Later (gB gs prot) (gB gs prot) (cuB imps) (cuB imps) w w' :=
    ⟨fun _ _ e => .inl e, fun _ _ _ _ e => .inr ⟨Int.le_refl _, .inl e⟩, fun _ e => .inr ⟨Int.le_refl _, .inl e⟩, fun _ e => e, fun _ h => h, fun b hp => hblk b (p.plt b hp)⟩
  have hf : ∃ f, BC (gB gs prot) (cuB imps) w' v (.own rows) f ∧ f.Nodup ∧ ∀ b ∈ f, w.heap.size ≤ b ∧ b < w'.heap.size := by
    rcases hI with ⟨er, a, ev⟩ | ⟨b, cap, sz, arr, ty, ev, hb, hh, hs, hl, hr⟩
    · subst er; subst ev; exact ⟨[], .own0, List.nodup_nil, fun b hb => by simp at hb⟩
    · subst ev
      exact ⟨[b], .own hh (fun hp => absurd (p.plt b hp) (by omega)) hs hl hr, by simp, fun b' hb' => by simp at hb'; subst hb'; exact ⟨hb, heap_lt hh⟩⟩
  obtain ⟨f, hbc, hnd, hfb⟩ := hf
  refine ⟨[], prot, f, fo, ?_, ?_, ?_, ?_, fun b hp => Nat.lt_of_lt_of_le (p.plt b hp) hB.size, ?_⟩
  · rw [List.append_nil]
    exact .one (.one hbc) (fun ms e => by cases e)
  · rw [List.append_nil]
    exact p.os.mono L (fun b hb => ⟨hblk b (p.lt b (by simp [hb])), p.os.np b hb⟩) fun x hx b e => ⟨hblk b (p.lt b (List.mem_append_right _ (mem_blks.2 ⟨x, hx, e⟩))), id⟩
  · rw [List.append_nil, List.append_assoc]
    refine List.nodup_append.2 ⟨hnd, by simpa using p.nod, fun a ha b hb e => ?_⟩
    subst e
    have := p.lt a (by simpa using hb)
    have := (hfb a ha).1
    omega
  · rw [List.append_nil]
    intro b hb
    rw [List.append_assoc] at hb
    rcases List.mem_append.1 hb with hb | hb
    · exact (hfb b hb).2
    · exact Nat.lt_of_lt_of_le (p.lt b (by simpa using hb)) hB.size
  · rw [List.append_nil]
    refine ⟨hB.os, hB.tape, hB.output, hB.size, fun b hb _ => hblk b hb, fun b hb => ?_, fun _ h => h, fun _ h => .inl h⟩
    rw [List.append_assoc] at hb
    rcases List.mem_append.1 hb with hb | hb
    · exact .inl (hfb b hb).1
    · exact .inr (by simpa using hb)
end Kw
namespace Kw
open Go
def bs (l : List UInt8) : ByteArray := ⟨l.toArray⟩
section
variable {R α : Type}
@[simp] theorem bnd_some' (x : α) (f : α → Option R) : bnd (some x) f = f x := (rfl)
@[simp] theorem bnd_none' (f : α → Option R) : bnd none f = none := (rfl)
@[simp] theorem br_true' (x y : Option R) : br true x y = x := (rfl)
@[simp] theorem br_false' (x y : Option R) : br false x y = y := (rfl)
theorem br_dec (p : Prop) [Decidable p] (x y : Option R) : br (decide p) x y = if p then x else y := by by_cases h : p <;> simp [br, h]
@[simp] theorem gBool_b (b : Bool) : gBool (.bool b) = some b := (rfl)
@[simp] theorem gInt_i (k : IntKind) (n : Int) : gInt k (.int k n) = some n := by simp [gInt]
@[simp] theorem gStr_s (s : ByteArray) : gStr (.str s) = some s := (rfl)
@[simp] theorem gSl_r (r : List Row) : gSl (.sl r) = some r := (rfl)
@[simp] theorem gOwn_r (r : List Row) : gOwn (.own r) = some r := (rfl)
@[simp] theorem gRows_r (r : List Row) : gRows (.rows r) = some r := (rfl)
@[simp] theorem gMap_r (r : List (ByteArray × Bool)) : gMap (.map r) = some r := (rfl)
theorem gTupN_t {n : Nat} (l : List MV) (h : l.length = n) : gTupN n (.tup l) = some l := by simp [gTupN, h]
theorem gAggN_t {n : Nat} (l : List MV) (h : l.length = n) : gAggN n (.agg l) = some l := by simp [gAggN, h]
theorem gCellsN_t {n : Nat} (l : List MV) (h : l.length = n) : gCellsN n (.cells l) = some l := by simp [gCellsN, h]
@[simp] theorem cellAt_zero (m : MV) (l : List MV) : cellAt (m :: l) 0 = m := (rfl)
@[simp] theorem cellAt_succ (m : MV) (l : List MV) (n : Nat) : cellAt (m :: l) (n + 1) = cellAt l n := (rfl)
@[simp] theorem hdO_c (o : Obj) (l : List Obj) : hdO (o :: l) = o := (rfl)
@[simp] theorem tlO_c (o : Obj) (l : List Obj) : tlO (o :: l) = l := (rfl)
@[simp] theorem bNot_t : bNot true = false := (rfl)
@[simp] theorem bNot_f : bNot false = true := (rfl)
@[simp] theorem bNot_dec (p : Prop) [Decidable p] : bNot (decide p) = decide (¬ p) := by by_cases h : p <;> simp [bNot, h]
@[simp] theorem iEq_dec (a b : Int) : iEq a b = decide (a = b) := by unfold iEq; by_cases h : a = b <;> simp [h]
@[simp] theorem iLt_dec (a b : Int) : iLt a b = decide (a < b) := (rfl)
@[simp] theorem iLe_dec (a b : Int) : iLe a b = decide (a ≤ b) := (rfl)
@[simp] theorem bAnd_dec (p q : Prop) [Decidable p] [Decidable q] : bAnd (decide p) (decide q) = decide (p ∧ q) := by by_cases h : p <;> by_cases h' : q <;> simp [bAnd, h, h']
@[simp] theorem bAnd_t (b : Bool) : bAnd true b = b := (rfl)
@[simp] theorem bAnd_f (b : Bool) : bAnd false b = false := (rfl)
@[simp] theorem bAnd_r (b : Bool) : bAnd b true = b := by cases b <;> rfl
@[simp] theorem sLen_bs (l : List UInt8) : sLen (bs l) = l.length := (rfl)
@[simp] theorem sCat_bs (a b : List UInt8) : sCat (bs a) (bs b) = bs (a ++ b) := by
  unfold sCat bs
  apply ByteArray.ext
  simp [ByteArray.append_eq, ByteArray.data_append]
theorem bs_list (l : List UInt8) : (bs l).toList = l := by rw [ByteArray.toList_eq]; rfl
theorem bs_inj {a b : List UInt8} (h : bs a = bs b) : a = b := by rw [← bs_list a, h, bs_list]
@[simp] theorem sEq_bs (a b : List UInt8) : sEq (bs a) (bs b) = decide (a = b) := by
  unfold sEq
  rw [bs_list, bs_list]
  by_cases h : a = b <;> simp [h]
theorem sSub_bs (a : List UInt8) (l h : Int) : sSub (bs a) l h = bs ((a.take h.toNat).drop l.toNat) := by
  unfold sSub bs
  apply ByteArray.ext
  rw [ByteArray.data_extract]
  apply Array.toList_inj.1
  simp [List.extract_eq_take_drop, List.drop_take]
theorem sAt_bs (a : List UInt8) (i : Int) (h : 0 ≤ i) : sAt (bs a) i = (a[i.toNat]?).map fun b => (b.toNat : Int) := by
  unfold sAt; rw [if_pos h]; rfl
@[simp] theorem rowsStr_one (n : Int) : rowsStr [[.int .u8 n]] = some (bs [n.toNat.toUInt8]) := (rfl)
theorem fits_dec (n m : Int) (k : Nat) : fits n m k = decide ((n + m) * k ≤ 2 ^ 46) := (rfl)
@[simp] theorem nrows_map {A : Type} (f : A → Row) (l : List A) : nrows (l.map f) = l.length := by simp [nrows]
@[simp] theorem nrows_nil : nrows [] = 0 := (rfl)
@[simp] theorem nrows_one (r : Row) : nrows [r] = 1 := (rfl)
@[simp] theorem catR_map {A : Type} (f : A → Row) (a b : List A) : catR (a.map f) (b.map f) = (a ++ b).map f := by simp [catR]
theorem catR_snoc {A : Type} (f : A → Row) (a : List A) (x : A) : catR (a.map f) [f x] = (a ++ [x]).map f := by simp [catR]
theorem okR_map {A : Type} (f : A → Row) (sz : Nat) (h : ∀ x, (f x).length = sz) (l : List A) : okR sz (l.map f) = true := by simp [okR, h]
theorem wrap_i64 {x : Int} (h1 : -9223372036854775808 ≤ x) (h2 : x ≤ 9223372036854775807) : IntKind.i64.wrap x = x := by
  rw [IntKind.wrap_i64]; omega
theorem iRem_nat (a b : Nat) : iRem (a : Int) (b : Int) = ((a % b : Nat) : Int) := by unfold iRem; rfl
theorem iQuo_nat (a b : Nat) (h : (a : Int) ≤ 9223372036854775807) : iQuo .i64 (a : Int) (b : Int) = ((a / b : Nat) : Int) := by
  unfold iQuo
  have e : (a : Int).tdiv (b : Int) = ((a / b : Nat) : Int) := (rfl)
  have hle : a / b ≤ a := Nat.div_le_self a b
  rw [e]
  generalize a / b = q at hle ⊢
  rw [wrap_i64] <;> omega
theorem iAdd_ok {a b : Int} (h1 : -9223372036854775808 ≤ a + b) (h2 : a + b ≤ 9223372036854775807) : iAdd .i64 a b = a + b := wrap_i64 h1 h2
theorem iSub_ok {a b : Int} (h1 : -9223372036854775808 ≤ a - b) (h2 : a - b ≤ 9223372036854775807) : iSub .i64 a b = a - b := wrap_i64 h1 h2
theorem iMul_ok {a b : Int} (h1 : -9223372036854775808 ≤ a * b) (h2 : a * b ≤ 9223372036854775807) : iMul .i64 a b = a * b := wrap_i64 h1 h2
theorem wrap_u8 {x : Int} (h1 : 0 ≤ x) (h2 : x ≤ 255) : IntKind.u8.wrap x = x := by
  simp [IntKind.wrap, IntKind.bits, IntKind.signed]; omega
end
end Kw
namespace Kw
open Go
/-- the texts up to each sign 59; a: what was read since the last one -/
def cutS : List UInt8 → List UInt8 → List (List UInt8)
  | _, [] => []
  | a, c :: r => bif c == 59 then (a ++ [c]) :: cutS [] r else cutS (a ++ [c]) r
/-- what is behind the last sign -/
def restS : List UInt8 → List UInt8 → List UInt8
  | a, [] => a
  | a, c :: r => bif c == 59 then restS [] r else restS (a ++ [c]) r
theorem cutS_hit (a r : List UInt8) : cutS a (59 :: r) = (a ++ [59]) :: cutS [] r := rfl
theorem cutS_miss (a r : List UInt8) {c : UInt8} (h : c ≠ 59) : cutS a (c :: r) = cutS (a ++ [c]) r := by
  have e : (c == 59) = false := by simpa using h
  rw [cutS, e]; rfl
theorem restS_hit (a r : List UInt8) : restS a (59 :: r) = restS [] r := rfl
theorem restS_miss (a r : List UInt8) {c : UInt8} (h : c ≠ 59) : restS a (c :: r) = restS (a ++ [c]) r := by
  have e : (c == 59) = false := by simpa using h
  rw [restS, e]; rfl
theorem cutS_join : ∀ (s a : List UInt8), (cutS a s).flatten ++ restS a s = a ++ s
  | [], a => by simp [cutS, restS]
  | c :: r, a => by
    by_cases h : c = 59
    · subst h
      rw [cutS_hit, restS_hit, List.flatten_cons, List.append_assoc, cutS_join r []]
      simp
    · rw [cutS_miss _ _ h, restS_miss _ _ h, cutS_join r]
      simp
theorem cutS_piece : ∀ (s a : List UInt8), 59 ∉ a → ∀ p ∈ cutS a s, ∃ q, p = q ++ [59] ∧ 59 ∉ q
  | [], a, _, p, hp => by simp [cutS] at hp
  | c :: r, a, ha, p, hp => by
    by_cases h : c = 59
    · subst h
      rw [cutS_hit] at hp
      rcases List.mem_cons.1 hp with e | e
      · exact ⟨a, e, ha⟩
      · exact cutS_piece r [] (by simp) p e
    · rw [cutS_miss _ _ h] at hp
      exact cutS_piece r _ (by simp [ha, Ne.symm h]) p hp
theorem restS_no : ∀ (s a : List UInt8), 59 ∉ a → 59 ∉ restS a s
  | [], a, ha => by simpa [restS] using ha
  | c :: r, a, ha => by
    by_cases h : c = 59
    · subst h; rw [restS_hit]; exact restS_no r [] (by simp)
    · rw [restS_miss _ _ h]; exact restS_no r _ (by simp [ha, Ne.symm h])
theorem indexByte_at : ∀ (a r : List UInt8), 59 ∉ a → Lib.indexByte (a ++ 59 :: r) 59 = a.length
  | [], r, _ => by simp [Lib.indexByte]
  | b :: a, r, h => by
    have h1 : b ≠ 59 := fun e => h (by simp [e])
    have h2 : (b == 59) = false := by simpa using h1
    have ih := indexByte_at a r (fun e => h (by simp [e]))
    rw [List.cons_append, Lib.indexByte, h2, ih]
    have h3 : ((a.length : Int) == -1) = false := by rw [beq_eq_false_iff_ne]; omega
    rw [h3]
    simp
theorem splitK_cut : ∀ (s a : List UInt8), 59 ∉ a → Lib.splitK [59] 1 (s.count 59) (a ++ s) = cutS a s ++ [restS a s]
  | [], a, _ => by simp [cutS, restS, Lib.splitK]
  | c :: r, a, ha => by
    by_cases h : c = 59
    · subst h
      rw [cutS_hit, restS_hit, List.count_cons_self, Lib.splitK, Lib.index_one, indexByte_at a r ha]
      have h3 : ((a.length : Int) == -1) = false := by rw [beq_eq_false_iff_ne]; omega
      rw [h3]
      have e1 : (a ++ 59 :: r).take (((a.length : Int)).toNat + 1) = a ++ [59] := by
        rw [Int.toNat_natCast, List.take_append, List.take_of_length_le (by omega)]; simp
      have e2 : (a ++ 59 :: r).drop (((a.length : Int)).toNat + ([59] : List UInt8).length) = r := by
        rw [Int.toNat_natCast, List.drop_append]; simp
      have ih := splitK_cut r [] (by simp)
      rw [List.nil_append] at ih
      simp only [Bool.false_eq_true, if_false]
      rw [e1, e2, ih]; rfl
    · rw [cutS_miss _ _ h, restS_miss _ _ h, List.count_cons_of_ne (by simpa using h)]
      have ih := splitK_cut r (a ++ [c]) (by simp [ha, Ne.symm h])
      rw [List.append_assoc] at ih
      exact ih
theorem bs_data (b : ByteArray) : bs b.data.toList = b := by cases b; simp [bs]
/-- the pieces of a text, by the library's cutting -/
theorem splitB_cut (s : ByteArray) : Lib.splitB ⟨#[59]⟩ 1 (Lib.countByte s.data.toList 59) s = (cutS [] s.data.toList ++ [restS [] s.data.toList]).map bs := by
  have h := Lib.splitB_data ⟨#[59]⟩ 1 (Lib.countByte s.data.toList 59) s
  have e := splitK_cut s.data.toList [] (by simp)
  rw [List.nil_append] at e
  have h2 : (Lib.splitB ⟨#[59]⟩ 1 (Lib.countByte s.data.toList 59) s).map (·.data.toList) = cutS [] s.data.toList ++ [restS [] s.data.toList] := h.trans e
  rw [← h2, List.map_map]
  conv => lhs; rw [← List.map_id (Lib.splitB ⟨#[59]⟩ 1 (Lib.countByte s.data.toList 59) s)]
  exact List.map_congr_left fun b _ => (bs_data b).symm
theorem cutS_count : ∀ (s a : List UInt8), (cutS a s).length = s.count 59
  | [], a => by simp [cutS]
  | c :: r, a => by
    by_cases h : c = 59
    · subst h; rw [cutS_hit, List.count_cons_self, List.length_cons, cutS_count]
    · rw [cutS_miss _ _ h, List.count_cons_of_ne (by simpa using h), cutS_count]
end Kw
namespace Kw
open Go
/-- strconv.Atoi where what it reads is a numeral of at most 18 bytes -/
def atoiQ : List MV → Option MV
  | [.str s] => if s.size ≤ 18 then (match Lib.atoi s.data.toList with | some n => some (.tup [.int .i64 n, .iface true]) | none => none) else none
  | _ => none
end Kw
namespace Kw
open Go
/-- impl.TagNames: the pieces of a text, in a new slice -/
def tagQ : List MV → Option MV
  | [.str s] => if s.size ≤ 2000000 then some (.own ((cutS [] s.data.toList).map fun x => [.str (bs x)])) else none
  | _ => none
end Kw
namespace Kw
open Go Go.Proofs

def an (l : List Nat) : Ann := ⟨l, l.map (fun s => (s, none, .loc s 100)) ++ l.flatMap fun s => (List.range 10).map fun c => (s, some c, .loc s (101 + c))⟩
def annL : List (Nat × Nat × List Nat) := [(3, 9, [6, 4, 5, 3]),
  (3, 13, [8, 4, 6, 7, 5, 3]),
  (3, 23, [9, 3]),
  (6, 4, [5, 0, 1]),
  (7, 4, [5, 0, 3, 4]),
  (20, 5, [10, 0, 8, 9, 7, 6]),
  (20, 10, [12, 11, 8, 9, 10, 0, 7, 6]),
  (20, 14, [13, 11, 9, 8, 10, 0, 7, 6]),
  (21, 11, [10, 3, 0, 1, 9, 2]),
  (26, 5, [4, 0, 3, 2]),
  (27, 4, [6, 3, 5, 0, 4]),
  (29, 3, [4, 1, 3, 2]),
  (29, 7, [5, 1, 3, 2]),
  (29, 11, [6, 1, 3, 2]),
  (30, 6, [7, 1, 0, 6]),
  (31, 6, [0, 1, 5]),
  (41, 4, [7, 3, 1, 2, 6]),
  (45, 3, [4, 0, 3]),
  (46, 2, [4, 2]),
  (49, 15, [8, 9, 0, 6, 7, 5, 1, 10]),
  (51, 2, [4, 0]),
  (53, 5, [9, 8, 2, 3, 6]),
  (55, 4, [7, 6, 1, 5]),
  (58, 2, [0, 3]),
  (61, 5, [4, 1, 3]),
  (65, 3, [6, 2, 1, 5, 4]),
  (72, 5, [9, 7, 8, 0, 5, 1, 6]),
  (72, 11, [10, 0, 8, 6, 7, 5, 1]),
  (76, 5, [4, 3]),
  (80, 15, [5, 0, 4, 2]),
  (83, 4, [3, 0]),
  (88, 3, [0, 1]),
  (89, 3, [4, 0, 3]),
  (91, 2, [5, 0, 1]),
  (94, 3, [5, 0, 4]),
  (94, 8, [8, 6, 7, 4]),
  (96, 10, [49, 48, 47, 6, 5]),
  (99, 5, [6, 0, 1, 5]),
  (100, 4, [3, 1]),
  (101, 3, [4, 1, 3]),
  (102, 4, [5, 4, 1, 3]),
  (106, 3, [8, 1, 3, 2, 7]),
  (106, 7, [10, 9, 2, 7, 3, 1, 8]),
  (107, 2, [5, 2, 1]),
  (108, 4, [3, 0]),
  (109, 5, [8, 7, 5, 3]),
  (110, 2, [5, 1, 2]),
  (110, 5, [6, 2, 1, 5]),
  (111, 2, [5, 1, 2]),
  (112, 3, [6, 2, 3, 5]),
  (113, 3, [6, 2, 1, 5]),
  (115, 2, [5, 0, 1]),
  (116, 4, [9, 0, 8, 1, 7, 2]),
  (122, 5, [7, 6, 2, 4]),
  (125, 4, [5, 0, 3]),
  (126, 36, [101, 100, 99, 8, 1, 13, 10, 11, 9, 12]),
  (131, 10, [4, 0, 5, 3]),
  (136, 1, [4, 1, 0]),
  (137, 11, [1, 15, 13, 16, 12, 14, 3, 4, 0, 11, 10]),
  (137, 18, [1, 17, 13, 12, 3, 4, 0, 11, 10])]
def annT (f r : Nat) : Ann := match annL.find? (fun x => x.1 == f && x.2.1 == r) with | some x => an x.2.2 | none => ⟨[], []⟩
def cutL : List (Nat × Nat × List Nat) := [(27, 7, [0, 5, 4, 3]),
  (27, 39, [5, 4]),
  (37, 11, [2, 3, 5, 6, 4, 7])]
def cutT (f r : Nat) : Option Ann := match cutL.find? (fun x => x.1 == f && x.2.1 == r) with | some x => some (an x.2.2) | none => none
def mvT (f : FuncId) : Bool := f == 28 || f == 37 || f == 38 || f == 39 || f == 40 || f == 41 || f == 42 || f == 53 || f == 65 || f == 104 || f == 122
def keepT (f : FuncId) : Bool := f == 5 || f == 12 || f == 20 || f == 26 || f == 28 || f == 29 || f == 37 || f == 38 || f == 39 || f == 40 || f == 41 || f == 42 || f == 53 || f == 54 || f == 65 || f == 67 || f == 104 || f == 112 || f == 122 || f == 123
def ioT (f : FuncId) : Bool := f == 11 || f == 27
def okL : List Nat := [3, 4, 6, 7, 8, 9, 10, 11, 12, 13, 14, 17, 18, 19, 20, 24, 25, 26, 27, 28, 29, 33, 34, 35, 36, 37, 38, 39, 40, 41, 42, 43, 44, 45, 50, 51, 52, 53, 54, 55, 56, 57, 58, 59, 60, 61, 62, 63, 64, 65, 66, 67, 73, 75, 76, 77, 78, 79, 80, 81, 82, 83, 84, 85, 86, 87, 88, 89, 90, 91, 92, 95, 98, 99, 100, 101, 102, 103, 104, 105, 106, 107, 108, 109, 110, 111, 112, 113, 114, 115, 116, 122, 123, 124, 125]
noncomputable def E : Env := { P := Tryz.prog, ann := annT, mv := mvT, keep := keepT, io := ioT, ext := fun f => bif f == 74 then some atoiQ else bif f == 5 then some tagQ else none, cut := cutT, okf := fun f => okL.contains f }
noncomputable def body (fn : Func) : Code := match fn.body with | some c => c | none => .skip
end Kw
