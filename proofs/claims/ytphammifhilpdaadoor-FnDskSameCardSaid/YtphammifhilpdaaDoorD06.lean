import Derived.Test.YtphammifhilpdaaDoorD05
namespace Kw
set_option linter.unusedVariables false
set_option linter.unusedSimpArgs false
set_option linter.unusedSectionVars false
open Go
variable [Gl]
/-- two frames know the same of a name -/
def AgH (fr fr' : Fr) (h : H) : Prop := look fr.ob h = look fr'.ob h ∧ (h ∈ fr.ob.map (·.1) ↔ h ∈ fr'.ob.map (·.1))
theorem AgH.refl (fr : Fr) (h : H) : AgH fr fr h := ⟨rfl, Iff.rfl⟩
theorem AgH.symm {fr fr' : Fr} {h : H} (a : AgH fr fr' h) : AgH fr' fr h := ⟨a.1.symm, a.2.symm⟩
theorem AgH.trans {fr fr' fr'' : Fr} {h : H} (a : AgH fr fr' h) (b : AgH fr' fr'' h) : AgH fr fr'' h := ⟨a.1.trans b.1, a.2.trans b.2⟩
theorem AgH.obj {fr fr' : Fr} {h : H} (a : AgH fr fr' h) : fr'.obj h = fr.obj h := a.1.symm
theorem ag_setObj {fr fr' : Fr} {h : H} (o : Obj) {x : H} (a : x ≠ h → AgH fr fr' x) : AgH (fr.setObj h o) (fr'.setObj h o) x := by
  unfold Fr.setObj AgH
  simp only
  by_cases e : x = h
  · subst e
    rw [look_put, look_put]
    exact ⟨rfl, by rw [mem_keys_put, mem_keys_put]; simp⟩
  · rw [look_put_ne e, look_put_ne e]
    refine ⟨(a e).1, ?_⟩
    rw [mem_keys_put, mem_keys_put]
    simp only [e, false_or]
    exact (a e).2
theorem ag_put {fr : Fr} {h : H} (o : Obj) {x : H} (e : x ≠ h) : AgH fr (fr.setObj h o) x := by
  unfold Fr.setObj AgH
  simp only
  rw [look_put_ne e, mem_keys_put]
  exact ⟨rfl, by simp [e]⟩
theorem ag_sl {fr fr' : Fr} {x : H} {s s' : List MV} (a : AgH fr fr' x) : AgH ⟨s, fr.ob⟩ ⟨s', fr'.ob⟩ x := a

/-- a step in continuations looks at the names F, and writes the names W -/
def LocC {A : Type} (F W : H → Prop) (c : (R : Type) → Fr → (A → Fr → Option R) → Option R) (fr : Fr) (x : A) (fr1 : Fr) : Prop :=
  (∀ (R : Type) k, c R fr k = k x fr1) ∧ fr1.sl = fr.sl ∧ ∀ fr', (∀ h, F h → AgH fr fr' h) → ∃ fr1', (∀ (R : Type) k, c R fr' k = k x fr1') ∧ fr1'.sl = fr'.sl ∧ (∀ h, F h → AgH fr1 fr1' h) ∧ ∀ h, ¬ W h → AgH fr' fr1' h
section
variable {A B : Type} {F W : H → Prop} {fr fr1 fr2 : Fr}
theorem LocC.pure (x : A) : LocC F W (fun R fr k => k x fr) fr x fr := ⟨fun _ _ => rfl, rfl, fun fr' h => ⟨fr', fun _ _ => rfl, rfl, h, fun h _ => AgH.refl _ _⟩⟩
theorem LocC.same {c : (R : Type) → Fr → (A → Fr → Option R) → Option R} {x : A} (h : LocC F W c fr x fr1) : ∀ h, ¬ W h → AgH fr fr1 h := by
  obtain ⟨fr1', h1, _, _, h3⟩ := h.2.2 fr fun h _ => AgH.refl _ _
  have e := h1 Fr fun _ fr => some fr
  rw [h.1] at e
  cases e
  exact h3
theorem LocC.bind {c : (R : Type) → Fr → (A → Fr → Option R) → Option R} {c2 : A → (R : Type) → Fr → (B → Fr → Option R) → Option R} {x : A} {y : B} (h1 : LocC F W c fr x fr1) (h2 : LocC F W (c2 x) fr1 y fr2) :
    LocC F W (fun R fr k => c R fr fun x fr => c2 x R fr k) fr y fr2 := by
  refine ⟨fun R k => (by show c R fr (fun x fr => c2 x R fr k) = _; rw [h1.1, h2.1]), h2.2.1.trans h1.2.1, fun fr' ha => ?_⟩
  obtain ⟨fr1', e1, s1, a1, w1⟩ := h1.2.2 fr' ha
  obtain ⟨fr2', e2, s2, a2, w2⟩ := h2.2.2 fr1' a1
  exact ⟨fr2', fun R k => (by show c R fr' (fun x fr => c2 x R fr k) = _; rw [e1, e2]), s2.trans s1, a2, fun h hw => (w1 h hw).trans (w2 h hw)⟩
theorem LocC.map {c : (R : Type) → Fr → (A → Fr → Option R) → Option R} {x : A} (q : A → B) (h1 : LocC F W c fr x fr1) : LocC F W (fun R fr k => c R fr fun x fr => k (q x) fr) fr (q x) fr1 :=
  h1.bind (c2 := fun x R fr k => k (q x) fr) (LocC.pure (q x))
theorem LocC.setObj {c : (R : Type) → Fr → (A → Fr → Option R) → Option R} {h : H} {o : Obj} {x : A} (hF : F h) (hW : W h) (hc : ∀ (R : Type) fr' k, (fr'.obj h = fr.obj h ∧ (h ∈ fr.ob.map (·.1) ↔ h ∈ fr'.ob.map (·.1))) → c R fr' k = k x (fr'.setObj h o)) : LocC F W c fr x (fr.setObj h o) := by
  refine ⟨fun R k => hc R fr k ⟨rfl, Iff.rfl⟩, rfl, fun fr' ha => ⟨fr'.setObj h o, fun R k => hc R fr' k ⟨(ha h hF).obj, (ha h hF).2⟩, rfl, fun x hx => ag_setObj o fun _ => ha x hx, fun x hx => ag_put o fun e => hx (e ▸ hW)⟩⟩
theorem LocC.keep {c : (R : Type) → Fr → (A → Fr → Option R) → Option R} {x : A} (hc : ∀ (R : Type) fr' k, (∀ h, F h → AgH fr fr' h) → c R fr' k = k x fr') : LocC F W c fr x fr :=
  ⟨fun R k => hc R fr k fun _ _ => AgH.refl _ _, rfl, fun fr' ha => ⟨fr', fun R k => hc R fr' k ha, rfl, ha, fun _ _ => AgH.refl _ _⟩⟩
variable {R : Type} {r : R}
theorem lay_loc {h : H} {o : Obj} {k : Fr → Option R} (hF : F h) (hW : W h) (e : fr.lay h o k = some r) : k (fr.setObj h o) = some r ∧ LocC F W (fun R fr k => fr.lay h o fun fr => k () fr) fr () (fr.setObj h o) := by
  obtain ⟨hf, hk⟩ := lay_some e
  refine ⟨hk, LocC.setObj hF hW fun R fr' k ⟨_, h2⟩ => ?_⟩
  have hf' : h ∉ fr'.ob.map (·.1) := fun hm => hf (h2.2 hm)
  unfold Fr.lay
  have : fr'.ob.any (fun p => p.1 == h) = false := by
    rw [Bool.eq_false_iff]
    intro ha
    obtain ⟨p, hp, he⟩ := List.any_eq_true.1 ha
    exact hf' (List.mem_map.2 ⟨p, hp, by simpa using he⟩)
  rw [this]; rfl
/-- freezing, giving -/
theorem freeze1_loc {m : MV} {k : MV → Fr → Option R} (hF : ∀ h ∈ refs1 m, F h ∧ W h) (h : freeze1 fr m k = some r) : ∃ x fr1, k x fr1 = some r ∧ LocC F W (fun R fr k => freeze1 fr m k) fr x fr1 := by
  cases m with
  | ref hd n =>
    obtain ⟨f1, f2⟩ := hF hd (by simp [refs1])
    simp only [freeze1] at h
    split at h
    · rename_i x e
      rcases br_some h with ⟨en, h⟩ | ⟨_, h⟩
      · exact ⟨_, _, h, LocC.setObj f1 f2 fun R fr' k ⟨e', _⟩ => by simp only [freeze1, e', e, en, br]; rfl⟩
      · simp at h
    · rename_i x e
      rcases br_some h with ⟨en, h⟩ | ⟨_, h⟩
      · exact ⟨_, _, h, LocC.keep fun R fr' k ha => by simp only [freeze1, (ha hd f1).obj, e, en, br]; rfl⟩
      · simp at h
    · simp at h
  | nils => exact ⟨_, _, h, LocC.pure _⟩
  | bool b => exact ⟨_, _, h, LocC.pure _⟩
  | int kd n => exact ⟨_, _, h, LocC.pure _⟩
  | str s => exact ⟨_, _, h, LocC.pure _⟩
  | sl s => exact ⟨_, _, h, LocC.pure _⟩
  | _ => simp [freeze1] at h
theorem freezeL_loc : ∀ (ms : List MV) {fr : Fr} {k : List MV → Fr → Option R}, (∀ h ∈ ms.flatMap refs1, F h ∧ W h) → freezeL ms fr k = some r → ∃ x fr1, k x fr1 = some r ∧ LocC F W (fun R fr k => freezeL ms fr k) fr x fr1
  | [], fr, k, _, h => ⟨_, _, h, LocC.pure _⟩
  | m :: ms, fr, k, hF, h => by
    simp only [freezeL] at h
    obtain ⟨x, fr1, h, l1⟩ := freeze1_loc (fun h hm => hF h (by simp [hm])) h
    obtain ⟨xs, fr2, h, l2⟩ := freezeL_loc ms (fun h hm => hF h (by simp only [List.flatMap_cons, List.mem_append]; exact .inr hm)) h
    exact ⟨_, _, h, l1.bind (c2 := fun x R fr k => freezeL ms fr fun ms fr => k (x :: ms) fr) (l2.map (fun ms => x :: ms))⟩
theorem give1_loc {mv : Bool} {m : MV} {k : MV → Fr → Option R} (hF : ∀ h ∈ refs1 m, F h ∧ W h) (h : give1 mv fr m k = some r) : ∃ x fr1, k x fr1 = some r ∧ LocC F W (fun R fr k => give1 mv fr m k) fr x fr1 ∧ (∀ h, (∀ y, fr.obj h ≠ .rows y) → fr1.obj h = fr.obj h) ∧ (∀ h, objHandles (fr1.obj h) = objHandles (fr.obj h) ∧ refsO (fr1.obj h) = refsO (fr.obj h)) ∧ handles x = handles m ∧ handles1 x = handles1 m := by
  cases m with
  | ref hd n =>
    obtain ⟨f1, f2⟩ := hF hd (by simp [refs1])
    simp only [give1] at h
    split at h
    · rename_i x e
      have hkeep : ∀ o h, (∀ y, fr.obj h ≠ .rows y) → (fr.setObj hd o).obj h = fr.obj h := fun o h hn => by
        by_cases eh : h = hd
        · subst eh; exact absurd e (hn x)
        · exact look_put_ne eh
      have hkeep2 : ∀ o, objHandles o = [] → refsO o = [] → ∀ h, objHandles ((fr.setObj hd o).obj h) = objHandles (fr.obj h) ∧ refsO ((fr.setObj hd o).obj h) = refsO (fr.obj h) := fun o ho ho' h => by
        by_cases eh : h = hd
        · rw [eh, show (fr.setObj hd o).obj hd = o from look_put, ho, ho', e]; exact ⟨rfl, rfl⟩
        · rw [show (fr.setObj hd o).obj h = fr.obj h from look_put_ne eh]; exact ⟨rfl, rfl⟩
      rcases br_some h with ⟨en, h⟩ | ⟨_, h⟩
      · split at h
        · rename_i hm
          split at h
          · rename_i hkk
            exact ⟨_, _, h, LocC.setObj f1 f2 fun R fr' k ⟨e', _⟩ => by simp only [give1, e', e, en, hm, hkk, br]; rfl, hkeep _, hkeep2 _ rfl rfl, rfl, rfl⟩
          · rename_i hkk
            rw [Bool.not_eq_true] at hkk
            exact ⟨_, _, h, LocC.setObj f1 f2 fun R fr' k ⟨e', _⟩ => by simp only [give1, e', e, en, hm, hkk, br]; rfl, hkeep _, hkeep2 _ rfl rfl, rfl, rfl⟩
        · rename_i hm
          exact ⟨_, _, h, LocC.setObj f1 f2 fun R fr' k ⟨e', _⟩ => by simp only [give1, e', e, en, hm, br]; rfl, hkeep _, hkeep2 _ rfl rfl, rfl, rfl⟩
      · simp at h
    · rename_i x e
      rcases br_some h with ⟨en, h⟩ | ⟨_, h⟩
      · exact ⟨_, _, h, LocC.keep fun R fr' k ha => by simp only [give1, (ha hd f1).obj, e, en, br]; rfl, fun _ _ => rfl, fun _ => ⟨rfl, rfl⟩, rfl, rfl⟩
      · simp at h
    · simp at h
  | nils =>
    simp only [give1] at h
    split at h
    · rename_i hm; exact ⟨_, _, h, LocC.keep fun R fr' k ha => by simp only [give1, hm]; rfl, fun _ _ => rfl, fun _ => ⟨rfl, rfl⟩, rfl, rfl⟩
    · rename_i hm; exact ⟨_, _, h, LocC.keep fun R fr' k ha => by simp only [give1, hm]; rfl, fun _ _ => rfl, fun _ => ⟨rfl, rfl⟩, rfl, rfl⟩
  | _ => exact ⟨_, _, h, LocC.pure _, fun _ _ => rfl, fun _ => ⟨rfl, rfl⟩, rfl, rfl⟩
theorem giveL_loc {mv : Bool} : ∀ (ms : List MV) {fr : Fr} {k : List MV → Fr → Option R}, (∀ h ∈ ms.flatMap refs1, F h ∧ W h) → giveL mv ms fr k = some r → ∃ x fr1, k x fr1 = some r ∧ LocC F W (fun R fr k => giveL mv ms fr k) fr x fr1 ∧ (∀ h, (∀ y, fr.obj h ≠ .rows y) → fr1.obj h = fr.obj h) ∧ (∀ h, objHandles (fr1.obj h) = objHandles (fr.obj h) ∧ refsO (fr1.obj h) = refsO (fr.obj h)) ∧ x.flatMap handles1 = ms.flatMap handles1
  | [], fr, k, _, h => ⟨_, _, h, LocC.pure _, fun _ _ => rfl, fun _ => ⟨rfl, rfl⟩, rfl⟩
  | m :: ms, fr, k, hF, h => by
    simp only [giveL] at h
    obtain ⟨x, fr1, h, l1, o1, p1, _, q1⟩ := give1_loc (fun h hm => hF h (by simp [hm])) h
    obtain ⟨xs, fr2, h, l2, o2, p2, q2⟩ := giveL_loc ms (fun h hm => hF h (by simp only [List.flatMap_cons, List.mem_append]; exact .inr hm)) h
    exact ⟨_, _, h, l1.bind (c2 := fun x R fr k => giveL mv ms fr fun ms fr => k (x :: ms) fr) (l2.map (fun ms => x :: ms)), fun h hn => (o2 h (by rw [o1 h hn]; exact hn)).trans (o1 h hn), fun h => ⟨(p2 h).1.trans (p1 h).1, (p2 h).2.trans (p1 h).2⟩, by rw [List.flatMap_cons, List.flatMap_cons, q1, q2]⟩
theorem giveA_loc {mv : Bool} : ∀ (ms : List MV) {fr : Fr} {k : List MV → Fr → Option R}, (∀ h ∈ ms.flatMap refsM, F h ∧ W h) → giveA mv ms fr k = some r → ∃ x fr1, k x fr1 = some r ∧ LocC F W (fun R fr k => giveA mv ms fr k) fr x fr1 ∧ (∀ h, (∀ y, fr.obj h ≠ .rows y) → fr1.obj h = fr.obj h) ∧ (∀ h, objHandles (fr1.obj h) = objHandles (fr.obj h) ∧ refsO (fr1.obj h) = refsO (fr.obj h)) ∧ x.flatMap handles = ms.flatMap handles
  | [], fr, k, _, h => ⟨_, _, h, LocC.pure _, fun _ _ => rfl, fun _ => ⟨rfl, rfl⟩, rfl⟩
  | m :: ms, fr, k, hF, h => by
    have hF2 : ∀ h ∈ ms.flatMap refsM, F h ∧ W h := fun h hm => hF h (by simp only [List.flatMap_cons, List.mem_append]; exact .inr hm)
    by_cases ha : m.isAg = true
    · obtain ⟨cs, e⟩ := ag_of ha
      subst e
      simp only [giveA] at h
      obtain ⟨x, fr1, h, l1, o1, p1, q1⟩ := giveL_loc cs (fun h hm => hF h (by simp only [List.flatMap_cons, List.mem_append, refsM]; exact .inl hm)) h
      obtain ⟨xs, fr2, h, l2, o2, p2, q2⟩ := giveA_loc ms hF2 h
      exact ⟨_, _, h, l1.bind (c2 := fun x R fr k => giveA mv ms fr fun ms fr => k (MV.agg x :: ms) fr) (l2.map (fun ms => MV.agg x :: ms)), fun h hn => (o2 h (by rw [o1 h hn]; exact hn)).trans (o1 h hn), fun h => ⟨(p2 h).1.trans (p1 h).1, (p2 h).2.trans (p1 h).2⟩, by rw [List.flatMap_cons, List.flatMap_cons, q2]; simp only [handles, q1]⟩
    · have ha : m.isAg = false := by simpa using ha
      rw [giveA_ne ha] at h
      have hr : refsM m = refs1 m := by cases m <;> first | rfl | (cases ha; done)
      obtain ⟨x, fr1, h, l1, o1, p1, q1, _⟩ := give1_loc (fun h hm => hF h (by simp only [List.flatMap_cons, List.mem_append, hr]; exact .inl hm)) h
      obtain ⟨xs, fr2, h, l2, o2, p2, q2⟩ := giveA_loc ms hF2 h
      refine ⟨_, _, h, ?_, fun h hn => (o2 h (by rw [o1 h hn]; exact hn)).trans (o1 h hn), fun h => ⟨(p2 h).1.trans (p1 h).1, (p2 h).2.trans (p1 h).2⟩, by rw [List.flatMap_cons, List.flatMap_cons, q2, q1]⟩
      have e : (fun (R : Type) (fr : Fr) (k : List MV → Fr → Option R) => giveA mv (m :: ms) fr k) = fun R fr k => give1 mv fr m fun m fr => giveA mv ms fr fun ms fr => k (m :: ms) fr := by
        funext R fr k; exact giveA_ne ha _ _ _
      rw [e]
      exact l1.bind (c2 := fun x R fr k => giveA mv ms fr fun ms fr => k (x :: ms) fr) (l2.map (fun ms => x :: ms))
theorem giveO_loc : ∀ (hs : List H) {fr : Fr} {k : List Obj → Fr → Option R}, (∀ h ∈ hs, F h) → (∀ h ∈ hs.flatMap (fun h => refsO (fr.obj h)), F h ∧ W h) → giveO hs fr k = some r → ∃ x fr1, k x fr1 = some r ∧ LocC F W (fun R fr k => giveO hs fr k) fr x fr1
  | [], fr, k, _, _, h => ⟨_, _, h, LocC.pure _⟩
  | h0 :: hs, fr, k, hH, hF, h => by
    simp only [giveO] at h
    have f0 := hH h0 (by simp)
    split at h
    · rename_i cs ec
      obtain ⟨x, fr1, h, l1, o1, p1, _⟩ := giveL_loc cs (fun h hm => hF h (by rw [List.flatMap_cons, ec]; exact List.mem_append_left _ hm)) h
      obtain ⟨xs, fr2, h, l2⟩ := giveO_loc hs (fun h hm => hH h (List.mem_cons_of_mem _ hm)) (fun h hm => hF h (by
        rw [List.flatMap_cons]
        refine List.mem_append_right _ ?_
        obtain ⟨a, ha, hm⟩ := List.mem_flatMap.1 hm
        exact List.mem_flatMap.2 ⟨a, ha, by rw [← (p1 a).2]; exact hm⟩)) h
      refine ⟨_, _, h, ?_⟩
      have := l1.bind (c2 := fun x R fr k => giveO hs fr fun os fr => k (Obj.cells x :: os) fr) (l2.map (fun os => Obj.cells x :: os))
      refine ⟨fun R k => ?_, this.2.1, fun fr' ha => ?_⟩
      · show giveO (h0 :: hs) fr k = _
        simp only [giveO, ec]; exact this.1 R k
      · obtain ⟨fr1', e1, h1⟩ := this.2.2 fr' ha
        refine ⟨fr1', fun R k => ?_, h1⟩
        show giveO (h0 :: hs) fr' k = _
        simp only [giveO, (ha h0 f0).obj, ec]; exact e1 R k
    · rename_i es ec
      obtain ⟨xs, fr2, h, l2⟩ := giveO_loc hs (fun h hm => hH h (List.mem_cons_of_mem _ hm)) (fun h hm => hF h (by
        rw [List.flatMap_cons]; exact List.mem_append_right _ hm)) h
      refine ⟨_, _, h, ?_⟩
      have := l2.map (fun os => Obj.map es :: os)
      refine ⟨fun R k => ?_, this.2.1, fun fr' ha => ?_⟩
      · show giveO (h0 :: hs) fr k = _
        simp only [giveO, ec]; exact this.1 R k
      · obtain ⟨fr1', e1, h1⟩ := this.2.2 fr' ha
        refine ⟨fr1', fun R k => ?_, h1⟩
        show giveO (h0 :: hs) fr' k = _
        simp only [giveO, (ha h0 f0).obj, ec]; exact e1 R k
    · rename_i y ec
      split at h
      · simp at h
      rename_i hnk
      rw [Bool.not_eq_true] at hnk
      obtain ⟨xs, fr2, h, l2⟩ := giveO_loc hs (fun h hm => hH h (List.mem_cons_of_mem _ hm)) (fun h hm => hF h (by
        rw [List.flatMap_cons]; exact List.mem_append_right _ hm)) h
      split at h
      · rename_i x ex
        refine ⟨_, _, h, fun R k => ?_, l2.2.1, fun fr' ha => ?_⟩
        · show giveO (h0 :: hs) fr k = _
          simp only [giveO, ec, hnk, Bool.false_eq_true, if_false]; refine (l2.1 R _).trans ?_; simp only [ex]
        · obtain ⟨fr2', e2, s2, a2, w2⟩ := l2.2.2 fr' ha
          refine ⟨fr2', fun R k => ?_, s2, a2, w2⟩
          show giveO (h0 :: hs) fr' k = _
          simp only [giveO, (ha h0 f0).obj, ec, hnk, Bool.false_eq_true, if_false]; refine (e2 R _).trans ?_; simp only [(a2 h0 f0).obj, ex]
      · simp at h
    · simp at h
theorem layC_loc {nm : Nat → H} (hn : ∀ j, (F (nm j) ∧ W (nm j)) ∧ F (kn (nm j)) ∧ W (kn (nm j))) : ∀ (ms : List MV) {j : Nat} {fr : Fr} {k : List MV → Fr → Option R}, layC nm ms j fr k = some r → ∃ x fr1, k x fr1 = some r ∧ LocC F W (fun R fr k => layC nm ms j fr k) fr x fr1
  | [], j, fr, k, h => ⟨_, _, h, LocC.pure _⟩
  | m :: ms, j, fr, k, h => by
    by_cases hm : m.isOwn = true
    · rcases own_of hm with ⟨rs, e | e⟩
      · subst e
        simp only [layC] at h
        obtain ⟨h, l1⟩ := lay_loc (hn j).1.1 (hn j).1.2 h
        obtain ⟨x, fr2, h, l2⟩ := layC_loc hn ms h
        exact ⟨_, _, h, l1.bind (c2 := fun _ R fr k => layC nm ms (j + 1) fr fun ms fr => k (MV.ref (nm j) (nrows rs) :: ms) fr) (l2.map (fun ms => MV.ref (nm j) (nrows rs) :: ms))⟩
      · subst e
        simp only [layC] at h
        obtain ⟨h, l1⟩ := lay_loc (hn j).2.1 (hn j).2.2 h
        obtain ⟨x, fr2, h, l2⟩ := layC_loc hn ms h
        exact ⟨_, _, h, l1.bind (c2 := fun _ R fr k => layC nm ms (j + 1) fr fun ms fr => k (MV.ref (kn (nm j)) (nrows rs) :: ms) fr) (l2.map (fun ms => MV.ref (kn (nm j)) (nrows rs) :: ms))⟩
    · have hm : m.isOwn = false := by simpa using hm
      rw [layC_ne hm] at h
      obtain ⟨x, fr2, h, l2⟩ := layC_loc hn ms h
      have e : (fun (R : Type) (fr : Fr) (k : List MV → Fr → Option R) => layC nm (m :: ms) j fr k) = fun R fr k => layC nm ms (j + 1) fr fun ms fr => k (m :: ms) fr := by
        funext R fr k; exact layC_ne hm _ _ _ _
      rw [e]
      exact ⟨_, _, h, l2.map (fun ms => m :: ms)⟩
theorem layA_loc {nm : Nat → Nat → H} (hn : ∀ t j, (F (nm t j) ∧ W (nm t j)) ∧ F (kn (nm t j)) ∧ W (kn (nm t j))) : ∀ (ms : List MV) {j : Nat} {fr : Fr} {k : List MV → Fr → Option R}, layA nm ms j fr k = some r → ∃ x fr1, k x fr1 = some r ∧ LocC F W (fun R fr k => layA nm ms j fr k) fr x fr1
  | [], j, fr, k, h => ⟨_, _, h, LocC.pure _⟩
  | m :: ms, j, fr, k, h => by
    by_cases hm : m.isOwn = true
    · rcases own_of hm with ⟨rs, e | e⟩
      · subst e
        simp only [layA] at h
        obtain ⟨h, l1⟩ := lay_loc (hn j 0).1.1 (hn j 0).1.2 h
        obtain ⟨x, fr2, h, l2⟩ := layA_loc hn ms h
        exact ⟨_, _, h, l1.bind (c2 := fun _ R fr k => layA nm ms (j + 1) fr fun ms fr => k (MV.ref (nm j 0) (nrows rs) :: ms) fr) (l2.map (fun ms => MV.ref (nm j 0) (nrows rs) :: ms))⟩
      · subst e
        simp only [layA] at h
        obtain ⟨h, l1⟩ := lay_loc (hn j 0).2.1 (hn j 0).2.2 h
        obtain ⟨x, fr2, h, l2⟩ := layA_loc hn ms h
        exact ⟨_, _, h, l1.bind (c2 := fun _ R fr k => layA nm ms (j + 1) fr fun ms fr => k (MV.ref (kn (nm j 0)) (nrows rs) :: ms) fr) (l2.map (fun ms => MV.ref (kn (nm j 0)) (nrows rs) :: ms))⟩
    · have hm : m.isOwn = false := by simpa using hm
      by_cases ha : m.isAg = true
      · obtain ⟨cs, e⟩ := ag_of ha
        subst e
        simp only [layA] at h
        obtain ⟨x, fr1, h, l1⟩ := layC_loc (hn j) cs h
        obtain ⟨xs, fr2, h, l2⟩ := layA_loc hn ms h
        exact ⟨_, _, h, l1.bind (c2 := fun x R fr k => layA nm ms (j + 1) fr fun ms fr => k (MV.agg x :: ms) fr) (l2.map (fun ms => MV.agg x :: ms))⟩
      · have ha : m.isAg = false := by simpa using ha
        rw [layA_ne hm ha] at h
        obtain ⟨x, fr2, h, l2⟩ := layA_loc hn ms h
        have e : (fun (R : Type) (fr : Fr) (k : List MV → Fr → Option R) => layA nm (m :: ms) j fr k) = fun R fr k => layA nm ms (j + 1) fr fun ms fr => k (m :: ms) fr := by
          funext R fr k; exact layA_ne hm ha _ _ _ _
        rw [e]
        exact ⟨_, _, h, l2.map (fun ms => m :: ms)⟩
theorem backO_loc {nm : Nat → Nat → H} (hn : ∀ t j, (F (nm t j) ∧ W (nm t j)) ∧ F (kn (nm t j)) ∧ W (kn (nm t j))) : ∀ (hs : List H) (os : List Obj) {i : Nat} {fr : Fr} {k : Fr → Option R}, (∀ h ∈ hs, F h ∧ W h) → backO nm hs os i fr k = some r → ∃ fr1, k fr1 = some r ∧ LocC F W (fun R fr k => backO nm hs os i fr fun fr => k () fr) fr () fr1
  | [], os, i, fr, k, _, h => ⟨fr, by unfold backO at h; exact h, LocC.keep fun R fr' k _ => by unfold backO; rfl⟩
  | h0 :: hs, [], i, fr, k, _, h => ⟨fr, by unfold backO at h; exact h, LocC.keep fun R fr' k _ => by unfold backO; rfl⟩
  | h0 :: hs, o :: os, i, fr, k, hH, h => by
    have f0 := hH h0 (by simp)
    have hH2 : ∀ h ∈ hs, F h ∧ W h := fun h hm => hH h (List.mem_cons_of_mem _ hm)
    cases o with
    | cells cs =>
      simp only [backO] at h
      obtain ⟨x, fr1, h, l1⟩ := layC_loc (hn i) cs h
      obtain ⟨fr2, h, l2⟩ := backO_loc hn hs os hH2 h
      have l3 : LocC F W (fun R fr k => k () (fr.setObj h0 (.cells x))) fr1 () (fr1.setObj h0 (.cells x)) := LocC.setObj f0.1 f0.2 fun R fr' k _ => rfl
      exact ⟨_, h, l1.bind (c2 := fun x R fr k => backO nm hs os (i + 1) (fr.setObj h0 (.cells x)) fun fr => k () fr) (l3.bind (c2 := fun _ R fr k => backO nm hs os (i + 1) fr fun fr => k () fr) l2)⟩
    | _ =>
      simp only [backO] at h
      obtain ⟨fr2, h, l2⟩ := backO_loc hn hs os hH2 h
      exact ⟨_, h, l2⟩
theorem fgt_loc {hs : List H} {ns : List Obj} (hH : ∀ h ∈ hs, F h ∧ W h) (fr : Fr) : LocC F W (fun R fr k => k () { fr with ob := fgtOb hs ns fr.ob }) fr () { fr with ob := fgtOb hs ns fr.ob } := by
  refine ⟨fun _ _ => rfl, rfl, fun fr' ha => ⟨{ fr' with ob := fgtOb hs ns fr'.ob }, fun _ _ => rfl, rfl, fun h hF => ?_, fun h hW => ?_⟩⟩
  · unfold AgH
    simp only
    rw [keys_fgt, keys_fgt]
    refine ⟨?_, (ha h hF).2⟩
    cases e : idx hs h 0 with
    | none => rw [look_fgt e, look_fgt e]; exact (ha h hF).1
    | some i => rw [look_fgt_in e, look_fgt_in e]; exact if_iff (ha h hF).2 _ _
  · unfold AgH
    simp only
    rw [keys_fgt]
    refine ⟨?_, Iff.rfl⟩
    cases e : idx hs h 0 with
    | none => rw [look_fgt e]
    | some i => exact absurd (hH h (idx_mem _ _ _ _ e)).2 hW
end
end Kw
namespace Kw
set_option linter.unusedVariables false
set_option linter.unusedSimpArgs false
set_option linter.unusedSectionVars false
open Go
variable [Gl]
def Fp.tch (p : Fp) (h : H) : Prop := h ∈ p.rd ∨ h ∈ p.wr ∨ ∃ d j, p.fam = some d ∧ h = .loc d j
def Fp.wrt (p : Fp) (h : H) : Prop := h ∈ p.wr ∨ ∃ d j, p.fam = some d ∧ h = .loc d j
def setD (sl : List MV) (d : Option Tmp) (m : MV) : List MV := match d with | some d => sl.set d m | none => sl
theorem finish_sl (fr : Fr) (d : Option Tmp) (m : MV) : (fr.finish d m).sl = setD fr.sl d m := by cases d <;> rfl
theorem finish_ob (fr : Fr) (d : Option Tmp) (m : MV) : (fr.finish d m).ob = fr.ob := by cases d <;> rfl
theorem ag_finish {fr fr' : Fr} {h : H} (a : AgH fr fr' h) (d : Option Tmp) (m m' : MV) : AgH (fr.finish d m) (fr'.finish d m') h := by
  unfold AgH; rw [finish_ob, finish_ob]; exact a
theorem ag_finish' {fr fr' : Fr} {h : H} (a : AgH fr fr' h) (d : Option Tmp) (m : MV) : AgH fr (fr'.finish d m) h := by
  unfold AgH; rw [finish_ob]; exact a
section
variable {E : Env} {run : Run} {o : Oper} {fr fr1 : Fr}
structure Cond (E : Env) (o : Oper) (fr fr' : Fr) : Prop where
  op : ∀ x ∈ o.op.operands.toList, opnd fr' x = opnd fr x
  ag : ∀ h, (fp E o fr).tch h → AgH fr fr' h
def LocOp (E : Env) (run : Run) (o : Oper) (fr fr1 : Fr) : Prop :=
  ∃ m, fr1.sl = setD fr.sl o.dst m ∧ (∀ h, ¬ (fp E o fr).wrt h → AgH fr fr1 h) ∧ (∀ (R : Type) (k' : Fr → Option R), evOp E run o fr k' = k' fr1) ∧
  ∀ fr', Cond E o fr fr' → ∃ fr1', (∀ (R : Type) (k' : Fr → Option R), evOp E run o fr' k' = k' fr1') ∧ fp E o fr' = fp E o fr ∧ (∀ h, (fp E o fr).tch h → AgH fr1 fr1' h) ∧ (∀ h, ¬ (fp E o fr).wrt h → AgH fr' fr1' h) ∧
    fr1'.sl = setD fr'.sl o.dst m
theorem Cond.refl (fr : Fr) : Cond E o fr fr := ⟨fun _ _ => rfl, fun _ _ => AgH.refl _ _⟩
theorem locOp_of {c : (R : Type) → Fr → (MV → Fr → Option R) → Option R} {m : MV} {fr0 : Fr} (hc : LocC (fp E o fr).tch (fp E o fr).wrt c fr m fr0)
    (he : ∀ fr', Cond E o fr fr' → ∀ (R : Type) (k' : Fr → Option R), evOp E run o fr' k' = c R fr' fun m fr => k' (fr.finish o.dst m)) (hf : ∀ fr', Cond E o fr fr' → fp E o fr' = fp E o fr) : LocOp E run o fr (fr0.finish o.dst m) := by
  refine ⟨m, by rw [finish_sl, hc.2.1], fun h hh => ag_finish' (hc.same h hh) _ _, fun R k' => by rw [he fr (Cond.refl fr), hc.1], fun fr' C => ?_⟩
  obtain ⟨fr1', e1, s1, a1, w1⟩ := hc.2.2 fr' C.ag
  exact ⟨fr1'.finish o.dst m, fun R k' => by rw [he fr' C, e1], hf fr' C, fun h hh => ag_finish (a1 h hh) _ _ _, fun h hh => ag_finish' (w1 h hh) _ _, by rw [finish_sl, s1]⟩
/-- operations that look at no memory -/
theorem locOp_pure {m : MV} (he : ∀ fr', Cond E o fr fr' → ∀ (R : Type) (k' : Fr → Option R), evOp E run o fr' k' = k' (fr'.finish o.dst m)) (hf : ∀ fr', Cond E o fr fr' → fp E o fr' = fp E o fr) : LocOp E run o fr (fr.finish o.dst m) :=
  locOp_of (LocC.pure m) he hf
variable {R : Type} {r : R} {k : Fr → Option R}
theorem rows_all {m : MV} {q : List Row → Option R} (h : fr.rows m q = some r) : ∃ rs, q rs = some r ∧ ∀ fr', (∀ h ∈ hOf m, AgH fr fr' h) → ∀ (R : Type) (k' : List Row → Option R), fr'.rows m k' = k' rs := by
  cases m with
  | sl rs => exact ⟨rs, h, fun _ _ _ _ => rfl⟩
  | nils => exact ⟨[], h, fun _ _ _ _ => rfl⟩
  | ref hd n =>
    simp only [Fr.rows] at h
    split at h
    · rename_i x e
      rcases br_some h with ⟨en, h⟩ | ⟨_, h⟩
      · exact ⟨x, h, fun fr' ha R k' => by simp only [Fr.rows, (ha hd (by simp [hOf])).obj, e, en, br]; rfl⟩
      · simp at h
    · rename_i x e
      rcases br_some h with ⟨en, h⟩ | ⟨_, h⟩
      · exact ⟨x, h, fun fr' ha R k' => by simp only [Fr.rows, (ha hd (by simp [hOf])).obj, e, en, br]; rfl⟩
      · simp at h
    · simp at h
  | _ => simp [Fr.rows] at h
theorem live_all {m : MV} {q : Option R} (h : fr.live m q = some r) : q = some r ∧ ∀ fr', (∀ h ∈ hOf m, AgH fr fr' h) → ∀ (R : Type) (k' : Option R), fr'.live m k' = k' := by
  cases m with
  | ptr hd o =>
    simp only [Fr.live] at h
    split at h
    · rename_i cs e
      exact ⟨h, fun fr' ha R k' => by simp only [Fr.live, (ha hd (by simp [hOf])).obj, e]⟩
    · simp at h
  | ptrE hd n i c =>
    simp only [Fr.live] at h
    split at h
    · rename_i x e
      rcases br_some h with ⟨en, h⟩ | ⟨_, h⟩
      · exact ⟨h, fun fr' ha R k' => by simp only [Fr.live, (ha hd (by simp [hOf])).obj, e, en, br]; rfl⟩
      · simp at h
    · rename_i x e
      rcases br_some h with ⟨en, h⟩ | ⟨_, h⟩
      · exact ⟨h, fun fr' ha R k' => by simp only [Fr.live, (ha hd (by simp [hOf])).obj, e, en, br]; rfl⟩
      · simp at h
    · simp at h
  | _ => exact ⟨h, fun _ _ _ _ => rfl⟩
theorem opn1_all {own : Bool} {sh : Sh} {m : MV} {q : MV → Option R} (h : opn1 own sh m q = some r) : q m = some r ∧ ∀ (R : Type) (k' : MV → Option R), opn1 own sh m k' = k' m := by
  unfold opn1 at h ⊢
  split at h
  · obtain ⟨b, hb, hk⟩ := bnd_some h; have := gBool_some hb; subst this; exact ⟨hk, fun _ _ => rfl⟩
  · obtain ⟨b, hb, hk⟩ := bnd_some h; have := gInt_some hb; subst this; exact ⟨hk, fun _ _ => by simp only [hb, bnd]; rfl⟩
  · obtain ⟨b, hb, hk⟩ := bnd_some h; have := gStr_some hb; subst this; exact ⟨hk, fun _ _ => rfl⟩
  · split at h
    · rename_i ho; obtain ⟨b, hb, hk⟩ := bnd_some h; have := gOwn_some hb; subst this; exact ⟨hk, fun _ _ => by simp only [ho, if_true]; rfl⟩
    · rename_i ho; obtain ⟨b, hb, hk⟩ := bnd_some h; have := gSl_some hb; subst this; exact ⟨hk, fun _ _ => by simp only [ho]; rfl⟩
  · obtain ⟨b, hb, hk⟩ := bnd_some h; have := gIf_some hb; subst this; exact ⟨hk, fun _ _ => rfl⟩
  · simp at h
theorem opn_all {own : Bool} : ∀ (shs : List Sh) (row : Row) (c : Nat) (q : List MV → Option R), opn own shs row c q = some r → ∃ ms, q ms = some r ∧ ∀ (R : Type) (k' : List MV → Option R), opn own shs row c k' = k' ms
  | [], row, c, q, h => ⟨[], h, fun _ _ => rfl⟩
  | sh :: shs, row, c, q, h => by
    unfold opn at h
    obtain ⟨h, h1⟩ := opn1_all h
    obtain ⟨ms, h, h2⟩ := opn_all shs row (c + 1) _ h
    exact ⟨_, h, fun R k' => by unfold opn; rw [h1, h2]⟩
theorem evLoad_all {t : TypeId} {a : MV} {q : MV → Option R} (h : evLoad E t a fr q = some r) : ∃ m, q m = some r ∧ ∀ fr', (∀ h ∈ hOf a, AgH fr fr' h) → ∀ (R : Type) (k' : MV → Option R), evLoad E t a fr' k' = k' m := by
  unfold evLoad at h ⊢
  split at h
  case isFalse => simp at h
  rename_i hk
  simp only [hk, if_true]
  split at h
  · rename_i hd off
    split at h
    · rename_i cs ec
      split at h
      · rename_i hle
        exact ⟨_, h, fun fr' ha R k' => by simp only [(ha hd (by simp [hOf])).obj, ec, hle, if_true]⟩
      · simp at h
    · simp at h
  · rename_i row c
    obtain ⟨ms, h, h1⟩ := opn_all _ _ _ _ h
    exact ⟨_, h, fun fr' ha R k' => by simp only [h1]⟩
  · rename_i hd n i c
    split at h
    · rename_i rows e
      rcases br_some h with ⟨en, h⟩ | ⟨_, h⟩
      · obtain ⟨row, hr, h⟩ := bnd_some h
        obtain ⟨ms, h, h1⟩ := opn_all _ _ _ _ h
        exact ⟨_, h, fun fr' ha R k' => by simp only [(ha hd (by simp [hOf])).obj, e, en, br, hr, bnd, Option.bind_some, h1]; rfl⟩
      · simp at h
    · rename_i rows e
      rcases br_some h with ⟨en, h⟩ | ⟨_, h⟩
      · obtain ⟨row, hr, h⟩ := bnd_some h
        obtain ⟨ms, h, h1⟩ := opn_all _ _ _ _ h
        exact ⟨_, h, fun fr' ha R k' => by simp only [(ha hd (by simp [hOf])).obj, e, en, br, hr, bnd, Option.bind_some, h1]; rfl⟩
      · simp at h
    · simp at h
  · simp at h
theorem evBin_all {ub : Bool} {op : BinOp} {x y : MV} {q : MV → Option R} (h : evBin ub op x y q = some r) : ∃ m, q m = some r ∧ ∀ (R : Type) (k' : MV → Option R), evBin ub op x y k' = k' m := by
  unfold evBin at h
  split at h
  · split at h
    · rename_i e
      subst e
      split at h
      all_goals first
        | (simp at h; done)
        | exact ⟨_, h, fun R k' => by simp only [evBin, if_true]⟩
        | (rcases br_some h with ⟨_, h⟩ | ⟨e, h⟩
           · simp at h
           · exact ⟨_, h, fun R k' => by simp only [evBin, if_true, e, br, cond_false]⟩)
    · simp at h
  · split at h
    · rcases br_some h with ⟨e, h⟩ | ⟨_, h⟩
      · exact ⟨_, h, fun R k' => by simp only [evBin, e, br, cond_true]⟩
      · simp at h
    · exact ⟨_, h, fun R k' => rfl⟩
    · exact ⟨_, h, fun R k' => rfl⟩
    · simp at h
  · split at h
    · rename_i hu
      split at h
      · exact ⟨_, h, fun R k' => by simp only [evBin, hu, if_true]⟩
      · exact ⟨_, h, fun R k' => by simp only [evBin, hu, if_true]⟩
      · simp at h
    · simp at h
  · simp at h
theorem parts_cond {fr' : Fr} : ∀ ps : List (Nat × Operand), (∀ p ∈ ps, opnd fr' p.2 = opnd fr p.2) → partsE fr' ps = partsE fr ps
  | [], _ => rfl
  | (i, x) :: ps, h => by
    unfold partsE
    rw [show opnd fr' x = opnd fr x from h (i, x) (by simp), parts_cond ps fun p hp => h p (List.mem_cons_of_mem _ hp)]
end
end Kw
namespace Kw
set_option linter.unusedVariables false
set_option linter.unusedSimpArgs false
set_option linter.unusedSectionVars false
open Go
variable [Gl]
section
variable {E : Env} {run : Run} {o : Oper} {fr : Fr} {R : Type} {r : R}
theorem res1_all {own : Bool} {t : TypeId} {m : MV} {q : MV → Option R} (h : res1 E own t m q = some r) : q m = some r ∧ ∀ (R : Type) (k' : MV → Option R), res1 E own t m k' = k' m := by
  unfold res1 at h ⊢
  split at h
  · rename_i ha
    simp only [ha, if_true]
    obtain ⟨cs, hc, h⟩ := bnd_some h
    obtain ⟨em, hl⟩ := gAggN_some hc
    obtain ⟨ms, hk, h1⟩ := opn_all _ _ _ _ h
    have e : (cs.drop 0).take (tshape E.P t).length = cs := by rw [List.drop_zero, ← hl, List.take_length]
    have ems : ms = cs := by
      have h2 := h1 (List MV) some
      have h3 := opn_eq (own := own) (tshape E.P t) cs 0 (some : List MV → Option (List MV)) (r := ms) h2
      rw [e] at h3
      exact (Option.some.inj h3.1).symm
    subst ems
    rw [em]
    refine ⟨hk, fun R k' => ?_⟩
    have hc' : gAggN (tshape E.P t).length (.agg ms) = some ms := by rw [← em]; exact hc
    simp only [hc', bnd, Option.bind_some, h1]
  · rename_i ha
    split at h
    · rename_i sh hs
      obtain ⟨h, h1⟩ := opn1_all h
      refine ⟨h, fun R k' => ?_⟩
      rw [if_neg ha]
      simp only [hs, h1]
    · simp at h
theorem resT_all {own : Bool} : ∀ (ts : List TypeId) (ms : List MV) (j : Nat) (q : List MV → Option R), resT E own ts ms j q = some r → ∃ x, q x = some r ∧ ∀ (R : Type) (k' : List MV → Option R), resT E own ts ms j k' = k' x
  | [], ms, j, q, h => ⟨[], h, fun _ _ => rfl⟩
  | t :: ts, ms, j, q, h => by
    unfold resT at h
    obtain ⟨h, h1⟩ := res1_all h
    obtain ⟨x, h, h2⟩ := resT_all ts ms (j + 1) _ h
    exact ⟨_, h, fun R k' => by unfold resT; rw [h1, h2]⟩
theorem resS_all {own : Bool} {t : TypeId} {m : MV} {q : List MV → Bool → Option R} (h : resS E own t m q = some r) : ∃ ms b, q ms b = some r ∧ ∀ (R : Type) (k' : List MV → Bool → Option R), resS E own t m k' = k' ms b := by
  unfold resS at h ⊢
  split at h
  · rename_i ts hu
    obtain ⟨vs, hc, h⟩ := bnd_some h
    obtain ⟨x, h, h1⟩ := resT_all _ _ _ _ h
    exact ⟨_, _, h, fun R k' => by simp only [hu, hc, bnd, Option.bind_some, h1]⟩
  · obtain ⟨h, h1⟩ := res1_all h
    exact ⟨_, _, h, fun R k' => by rw [h1]⟩
theorem shape1_all {f : H → Option H} {old new : MV} {q : MV → Option R} (h : shape1 f old new q = some r) : ∃ x, q x = some r ∧ ∀ (R : Type) (k' : MV → Option R), shape1 f old new k' = k' x := by
  unfold shape1 at h ⊢
  split at h
  · obtain ⟨b, hb, hk⟩ := bnd_some h; exact ⟨_, hk, fun R k' => by simp only [hb, bnd, Option.bind_some]⟩
  · obtain ⟨b, hb, hk⟩ := bnd_some h; exact ⟨_, hk, fun R k' => by simp only [hb, bnd, Option.bind_some]⟩
  · obtain ⟨b, hb, hk⟩ := bnd_some h; exact ⟨_, hk, fun R k' => by simp only [hb, bnd, Option.bind_some]⟩
  · obtain ⟨b, hb, hk⟩ := bnd_some h; exact ⟨_, hk, fun R k' => by simp only [hb, bnd, Option.bind_some]⟩
  · obtain ⟨b, hb, hk⟩ := bnd_some h; exact ⟨_, hk, fun R k' => by simp only [hb, bnd, Option.bind_some]⟩
  · obtain ⟨b, hb, hk⟩ := bnd_some h; exact ⟨_, hk, fun R k' => by simp only [hb, bnd, Option.bind_some]⟩
  · obtain ⟨b, hb, hk⟩ := bnd_some h; exact ⟨_, hk, fun R k' => by simp only [hb, bnd, Option.bind_some]⟩
theorem shapeL_all {f : H → Option H} : ∀ (os : List MV) (j : Nat) (ns : List MV) (q : List MV → Option R), shapeL f os j ns q = some r → ∃ x, q x = some r ∧ ∀ (R : Type) (k' : List MV → Option R), shapeL f os j ns k' = k' x
  | [], j, ns, q, h => ⟨[], h, fun _ _ => rfl⟩
  | o :: os, j, ns, q, h => by
    unfold shapeL at h
    obtain ⟨x, h, h1⟩ := shape1_all h
    obtain ⟨xs, h, h2⟩ := shapeL_all os (j + 1) ns _ h
    exact ⟨_, h, fun R k' => by unfold shapeL; rw [h1, h2]⟩
theorem likeO_all {f : H → Option H} : ∀ (os : List Obj) (rs : List Obj) (q : List Obj → Option R), likeO f os rs q = some r → ∃ x, q x = some r ∧ ∀ (R : Type) (k' : List Obj → Option R), likeO f os rs k' = k' x
  | [], rs, q, h => ⟨[], h, fun _ _ => rfl⟩
  | .cells cs :: os, rs, q, h => by
    simp only [likeO] at h
    obtain ⟨ns, hn, hk⟩ := bnd_some h
    obtain ⟨x, hk, h1⟩ := shapeL_all _ _ _ _ hk
    obtain ⟨xs, hk, h2⟩ := likeO_all os (tlO rs) _ hk
    exact ⟨_, hk, fun R k' => by simp only [likeO, hn, bnd, Option.bind_some, h1, h2]⟩
  | .map es :: os, rs, q, h => by
    simp only [likeO] at h
    obtain ⟨ns, hn, hk⟩ := bnd_some h
    obtain ⟨xs, hk, h2⟩ := likeO_all os (tlO rs) _ hk
    exact ⟨_, hk, fun R k' => by simp only [likeO, hn, bnd, Option.bind_some, h2]⟩
  | .rows x :: os, rs, q, h => by
    simp only [likeO] at h
    obtain ⟨ns, hn, hk⟩ := bnd_some h
    rcases br_some hk with ⟨hc, hk⟩ | ⟨_, hk⟩
    · obtain ⟨xs, hk, h2⟩ := likeO_all os (tlO rs) _ hk
      exact ⟨_, hk, fun R k' => by simp only [likeO, hn, bnd, Option.bind_some, hc, br, cond_true, h2]⟩
    · simp at hk
  | .none :: os, rs, q, h => by simp [likeO] at h
  | .froz _ :: os, rs, q, h => by simp [likeO] at h
theorem lend1_all {m : MV} {q : MV → Option R} (h : lend1 fr m q = some r) : ∃ x, q x = some r ∧ ∀ fr', (∀ h ∈ refs1 m, AgH fr fr' h) → ∀ (R : Type) (k' : MV → Option R), lend1 fr' m k' = k' x := by
  cases m with
  | ref hd n =>
    simp only [lend1] at h
    split at h
    · rename_i x e
      rcases br_some h with ⟨en, h⟩ | ⟨_, h⟩
      · exact ⟨_, h, fun fr' ha R k' => by simp only [lend1, (ha hd (by simp [refs1])).obj, e, en, br]; rfl⟩
      · simp at h
    · rename_i x e
      rcases br_some h with ⟨en, h⟩ | ⟨_, h⟩
      · exact ⟨_, h, fun fr' ha R k' => by simp only [lend1, (ha hd (by simp [refs1])).obj, e, en, br]; rfl⟩
      · simp at h
    · simp at h
  | _ => exact ⟨_, h, fun _ _ _ _ => rfl⟩
theorem lendL_all : ∀ (ms : List MV) {q : List MV → Option R}, lendL fr ms q = some r → ∃ x, q x = some r ∧ ∀ fr', (∀ h ∈ ms.flatMap refs1, AgH fr fr' h) → ∀ (R : Type) (k' : List MV → Option R), lendL fr' ms k' = k' x
  | [], q, h => ⟨[], h, fun _ _ _ _ => rfl⟩
  | m :: ms, q, h => by
    simp only [lendL] at h
    obtain ⟨x, h, h1⟩ := lend1_all h
    obtain ⟨xs, h, h2⟩ := lendL_all ms h
    exact ⟨_, h, fun fr' ha R k' => by simp only [lendL]; rw [h1 fr' (fun h hm => ha h (by rw [List.flatMap_cons]; exact List.mem_append_left _ hm)), h2 fr' (fun h hm => ha h (by rw [List.flatMap_cons]; exact List.mem_append_right _ hm))]⟩
theorem lendA_all : ∀ (ms : List MV) {q : List MV → Option R}, lendA fr ms q = some r → ∃ x, q x = some r ∧ ∀ fr', (∀ h ∈ ms.flatMap refsM, AgH fr fr' h) → ∀ (R : Type) (k' : List MV → Option R), lendA fr' ms k' = k' x
  | [], q, h => ⟨[], h, fun _ _ _ _ => rfl⟩
  | m :: ms, q, h => by
    by_cases ha : m.isAg = true
    · obtain ⟨cs, e⟩ := ag_of ha
      subst e
      simp only [lendA] at h
      obtain ⟨x, h, h1⟩ := lendL_all cs h
      obtain ⟨xs, h, h2⟩ := lendA_all ms h
      exact ⟨_, h, fun fr' ha R k' => by simp only [lendA]; rw [h1 fr' (fun h hm => ha h (by rw [List.flatMap_cons]; exact List.mem_append_left _ hm)), h2 fr' (fun h hm => ha h (by rw [List.flatMap_cons]; exact List.mem_append_right _ hm))]⟩
    · have ha : m.isAg = false := by simpa using ha
      have hr : refsM m = refs1 m := by cases m <;> first | rfl | (cases ha; done)
      rw [lendA_ne ha] at h
      obtain ⟨x, h, h1⟩ := lend1_all h
      obtain ⟨xs, h, h2⟩ := lendA_all ms h
      exact ⟨_, h, fun fr' hag R k' => by rw [lendA_ne ha, h1 fr' (fun h hm => hag h (by rw [List.flatMap_cons, hr]; exact List.mem_append_left _ hm)), h2 fr' (fun h hm => hag h (by rw [List.flatMap_cons]; exact List.mem_append_right _ hm))]⟩
theorem mem_dedup : ∀ {l : List H} {h : H}, h ∈ l → h ∈ dedup l
  | a :: l, h, hm => by
    unfold dedup
    by_cases e : h = a
    · subst e; exact List.mem_cons_self
    · refine List.mem_cons_of_mem _ (List.mem_filter.2 ⟨mem_dedup ((List.mem_cons.1 hm).resolve_left e), by simpa using e⟩)
theorem flatMap_cong {A B : Type} {f g : A → List B} : ∀ {l : List A}, (∀ a ∈ l, f a = g a) → l.flatMap f = l.flatMap g
  | [], _ => rfl
  | a :: l, h => by rw [List.flatMap_cons, List.flatMap_cons, h a (by simp), flatMap_cong fun b hb => h b (List.mem_cons_of_mem _ hb)]
theorem closeH_congr {fr fr' : Fr} {L : List H} (h : ∀ x ∈ L, objHandles (fr'.obj x) = objHandles (fr.obj x)) : closeH fr' L = closeH fr L := by
  unfold closeH
  rw [flatMap_cong h]
theorem giveX_loc {F W : H → Prop} {f : FuncId} (ms : List MV) {k : List MV → Fr → Option R} (hF : ∀ h ∈ ms.flatMap refsM, F h ∧ W h) (h : giveX E f ms fr k = some r) : ∃ x fr1, k x fr1 = some r ∧ LocC F W (fun R fr k => giveX E f ms fr k) fr x fr1 ∧ (∀ h, objHandles (fr1.obj h) = objHandles (fr.obj h) ∧ refsO (fr1.obj h) = refsO (fr.obj h)) ∧ x.flatMap handles = ms.flatMap handles ∧ ioRefs E f x = ioRefs E f ms := by
  by_cases hio : E.io f = true
  · unfold giveX at h
    rw [if_pos hio] at h
    refine ⟨ms, fr, h, ?_, fun _ => ⟨rfl, rfl⟩, rfl, rfl⟩
    exact LocC.keep fun R fr' k _ => by unfold giveX; rw [if_pos hio]
  · unfold giveX at h
    rw [if_neg hio] at h
    obtain ⟨x, fr1, h, l, _, p, q⟩ := giveA_loc ms hF h
    refine ⟨x, fr1, h, ?_, p, q, by unfold ioRefs; rw [if_neg hio, if_neg hio]⟩
    have e : (fun (R : Type) (fr : Fr) (k : List MV → Fr → Option R) => giveX E f ms fr k) = fun R fr k => giveA (E.mv f) ms fr k := by
      funext R fr k; unfold giveX; rw [if_neg hio]
    rw [e]; exact l
theorem evCallM_loc {f : FuncId} {args : List MV} {k : MV → Fr → Option R} (h : evCallM E run f args fr o k = some r) :
    ∃ m fr1, k m fr1 = some r ∧ LocC (fpCall E f args fr o).tch (fpCall E f args fr o).wrt (fun R fr k => evCallM E run f args fr o k) fr m fr1 ∧ ∀ fr', (∀ h, (fpCall E f args fr o).tch h → AgH fr fr' h) → fpCall E f args fr' o = fpCall E f args fr o := by
  by_cases hl : (!(E.mv f || E.io f) && (scalarT E o.type && (args.flatMap handles).isEmpty)) = true
  · have hfp : ∀ fr', fpCall E f args fr' o = ⟨args.flatMap refsM, [], none⟩ := fun fr' => by unfold fpCall; rw [if_pos hl]
    unfold evCallM at h
    simp only at h
    rw [if_pos hl] at h
    obtain ⟨as, h, h1⟩ := lendA_all _ h
    obtain ⟨res, hres, h⟩ := bnd_some h
    obtain ⟨ms, b, h, h2⟩ := resS_all h
    split at h
    · rename_i hs
      refine ⟨_, _, h, LocC.keep fun R fr' k ha => ?_, fun fr' _ => by rw [hfp, hfp]⟩
      unfold evCallM
      simp only
      rw [if_pos hl, h1 fr' fun h hm => ha h (.inl (by rw [hfp]; exact hm))]
      simp only [hres, bnd, Option.bind_some, h2, hs, if_true]
    · simp at h
  · have hfp : ∀ fr', fpCall E f args fr' o = ⟨[], args.flatMap refsM ++ (closeH fr' (args.flatMap handles ++ ioRefs E f args) ++ (closeH fr' (args.flatMap handles ++ ioRefs E f args)).flatMap fun h => refsO (fr'.obj h)), some (o.dst.getD 0)⟩ := fun fr' => by unfold fpCall; rw [if_neg hl]
    have hwr : ∀ h, (fpCall E f args fr o).wrt h → (fpCall E f args fr o).tch h := fun h hh => hh.elim (fun x => .inr (.inl x)) fun x => .inr (.inr x)
    have hin : ∀ h, h ∈ args.flatMap refsM ++ (closeH fr (args.flatMap handles ++ ioRefs E f args) ++ (closeH fr (args.flatMap handles ++ ioRefs E f args)).flatMap fun h => refsO (fr.obj h)) → (fpCall E f args fr o).tch h ∧ (fpCall E f args fr o).wrt h := fun h hh => by
      have : (fpCall E f args fr o).wrt h := .inl (by rw [hfp]; exact hh)
      exact ⟨hwr h this, this⟩
    have hfam : ∀ j, (fpCall E f args fr o).tch (.loc (o.dst.getD 0) j) ∧ (fpCall E f args fr o).wrt (.loc (o.dst.getD 0) j) := fun j => by
      have : (fpCall E f args fr o).wrt (.loc (o.dst.getD 0) j) := .inr ⟨_, j, by rw [hfp], rfl⟩
      exact ⟨hwr _ this, this⟩
    have hfpc : ∀ fr', (∀ h, (fpCall E f args fr o).tch h → AgH fr fr' h) → fpCall E f args fr' o = fpCall E f args fr o := fun fr' ha => by
      have hc : closeH fr' (args.flatMap handles ++ ioRefs E f args) = closeH fr (args.flatMap handles ++ ioRefs E f args) := closeH_congr fun x hx => by
        have hx' : x ∈ closeH fr (args.flatMap handles ++ ioRefs E f args) := mem_dedup (List.mem_append_left _ hx)
        rw [(ha x (hin x (List.mem_append_right _ (List.mem_append_left _ hx'))).1).obj]
      rw [hfp, hfp, hc, flatMap_cong (g := fun h => refsO (fr.obj h)) fun x hx => by
        rw [(ha x (hin x (List.mem_append_right _ (List.mem_append_left _ hx))).1).obj]]
    have h0 := h
    unfold evCallM at h
    simp only at h
    rw [if_neg hl] at h
    obtain ⟨as, fr1, h, l1, p1, q1, q2⟩ := giveX_loc (E := E) (f := f) args (fun h hm => hin h (List.mem_append_left _ hm)) h
    have hcl : closeH fr1 (as.flatMap handles ++ ioRefs E f as) = closeH fr (args.flatMap handles ++ ioRefs E f args) := by
      rw [q1, q2]; exact closeH_congr fun x _ => (p1 x).1
    rw [hcl] at h
    generalize hhs : closeH fr (args.flatMap handles ++ ioRefs E f args) = hs at h hcl
    have hH : ∀ h ∈ hs, (fpCall E f args fr o).tch h ∧ (fpCall E f args fr o).wrt h := fun h hm => hin h (List.mem_append_right _ (List.mem_append_left _ (by rw [hhs]; exact hm)))
    obtain ⟨os, fr2, h, l2⟩ := giveO_loc hs (fun h hm => (hH h hm).1) (fun h hm => by
      obtain ⟨a, ha, hm⟩ := List.mem_flatMap.1 hm
      rw [(p1 a).2] at hm
      exact hin h (List.mem_append_right _ (List.mem_append_right _ (List.mem_flatMap.2 ⟨a, by rw [hhs]; exact ha, hm⟩)))) h
    obtain ⟨res, hres, h⟩ := bnd_some h
    obtain ⟨ns, h, hlike⟩ := likeO_all _ _ _ h
    have l3 := fgt_loc (F := (fpCall E f args fr o).tch) (W := (fpCall E f args fr o).wrt) (ns := ns) hH fr2
    have hB : ∀ t j, ((fpCall E f args fr o).tch (nmB (o.dst.getD 0) t j) ∧ (fpCall E f args fr o).wrt (nmB (o.dst.getD 0) t j)) ∧ (fpCall E f args fr o).tch (kn (nmB (o.dst.getD 0) t j)) ∧ (fpCall E f args fr o).wrt (kn (nmB (o.dst.getD 0) t j)) := fun t j => ⟨hfam _, hfam _⟩
    have hR : ∀ t j, ((fpCall E f args fr o).tch (nmR (o.dst.getD 0) t j) ∧ (fpCall E f args fr o).wrt (nmR (o.dst.getD 0) t j)) ∧ (fpCall E f args fr o).tch (kn (nmR (o.dst.getD 0) t j)) ∧ (fpCall E f args fr o).wrt (kn (nmR (o.dst.getD 0) t j)) := fun t j => ⟨hfam _, hfam _⟩
    -- what the whole is, at a frame that agrees
    have hcl' : ∀ (fr1' : Fr), (∀ h, (fpCall E f args fr o).tch h → AgH fr1 fr1' h) → closeH fr1' (as.flatMap handles ++ ioRefs E f as) = hs := fun fr1' ha => by
      rw [← hcl]
      refine closeH_congr fun x hx => ?_
      have hx' : x ∈ hs := by rw [← hcl]; exact mem_dedup (List.mem_append_left _ hx)
      rw [(ha x (hH x hx').1).obj]
    have fin : ∀ {m : MV} {frE : Fr} (c : (R : Type) → Fr → (MV → Fr → Option R) → Option R), LocC (fpCall E f args fr o).tch (fpCall E f args fr o).wrt c { fr2 with ob := fgtOb hs ns fr2.ob } m frE →
        (∀ (R : Type) (k : MV → Fr → Option R) (frx : Fr), (match boxedT E o.type with
            | .ptr e => bnd (newP hs.length res.1) fun _ => bnd (gCellsN (tshape E.P e).length (nthO res.2 hs.length)) fun cs => opn (E.keep f) (tshape E.P e) cs 0 fun cs =>
                backO (nmB (o.dst.getD 0)) hs ns 0 frx fun fr => layC (nmR (o.dst.getD 0) 1) cs 0 fr fun cs fr => fr.lay (.loc (o.dst.getD 0) 0) (.cells cs) fun fr => k (.ptr (.loc (o.dst.getD 0) 0) 0) fr
            | .map => bnd (newM hs.length res.1) fun _ => bnd (gMap (nthO res.2 hs.length)) fun es =>
                backO (nmB (o.dst.getD 0)) hs ns 0 frx fun fr => fr.lay (.loc (o.dst.getD 0) 0) (.map es) fun fr => k (.mapr (.loc (o.dst.getD 0) 0)) fr
            | .no => if E.kr f then bnd (gOwnK res.1) fun x => backO (nmB (o.dst.getD 0)) hs ns 0 frx fun fr => layA (nmR (o.dst.getD 0)) [.ownK x] 0 fr fun ms fr => k (unres ms false) fr else resS E (E.keep f) o.type res.1 fun ms b =>
                backO (nmB (o.dst.getD 0)) hs ns 0 frx fun fr => layA (nmR (o.dst.getD 0)) ms 0 fr fun ms fr => k (unres ms b) fr) = c R frx k) →
        LocC (fpCall E f args fr o).tch (fpCall E f args fr o).wrt (fun R fr k => evCallM E run f args fr o k) fr m frE := by
      intro m frE c lc hc
      have whole := l1.bind (c2 := fun as R fr k => giveO hs fr fun os fr => (fun (_ : Unit) (fr : Fr) => c R fr k) () { fr with ob := fgtOb hs ns fr.ob })
        (l2.bind (c2 := fun os R fr k => (fun (_ : Unit) (fr : Fr) => c R fr k) () { fr with ob := fgtOb hs ns fr.ob }) (l3.bind (c2 := fun _ R fr k => c R fr k) lc))
      have key : ∀ (fr' fr1' fr2' : Fr), (∀ (R : Type) k, giveX E f args fr' k = (k as fr1' : Option R)) → closeH fr1' (as.flatMap handles ++ ioRefs E f as) = hs → (∀ (R : Type) k, giveO hs fr1' k = (k os fr2' : Option R)) → ∀ (R : Type) (k : MV → Fr → Option R), evCallM E run f args fr' o k = c R { fr2' with ob := fgtOb hs ns fr2'.ob } k := by
        intro fr' fr1' fr2' e1 e2 e3 R k
        unfold evCallM
        simp only
        rw [if_neg hl, e1]
        simp only [e2]
        rw [e3]
        simp only [hres, bnd, Option.bind_some]
        rw [hlike]
        exact hc R k _
      refine ⟨fun R k => ?_, whole.2.1, fun fr' ha => ?_⟩
      · show evCallM E run f args fr o k = _
        rw [key fr fr1 fr2 l1.1 hcl l2.1, lc.1]
      · obtain ⟨fr1', e1, s1, a1, w1⟩ := l1.2.2 fr' ha
        obtain ⟨fr2', e2, s2, a2, w2⟩ := l2.2.2 fr1' a1
        obtain ⟨fr3', e3, s3, a3, w3⟩ := (l3.bind (c2 := fun _ R fr k => c R fr k) lc).2.2 fr2' a2
        refine ⟨fr3', fun R k => ?_, (s3.trans s2).trans s1, a3, fun h hw => ((w1 h hw).trans (w2 h hw)).trans (w3 h hw)⟩
        show evCallM E run f args fr' o k = _
        rw [key fr' fr1' fr2' e1 (hcl' fr1' a1) e2]
        exact e3 R k
    cases hbt : boxedT E o.type with
    | ptr e =>
      simp only [hbt] at h
      obtain ⟨u, hu, h⟩ := bnd_some h
      obtain ⟨cs, hcs, h⟩ := bnd_some h
      obtain ⟨cs', h, hop⟩ := opn_all _ _ _ _ h
      obtain ⟨fr4, h, l4⟩ := backO_loc hB hs ns (fun h hm => hH h hm) h
      obtain ⟨cs2, fr5, h, l5⟩ := layC_loc (hR 1) cs' h
      obtain ⟨h, l6⟩ := lay_loc (hfam 0).1 (hfam 0).2 h
      refine ⟨_, _, h, fin (fun R fr k => backO (nmB (o.dst.getD 0)) hs ns 0 fr fun fr => layC (nmR (o.dst.getD 0) 1) cs' 0 fr fun cs fr => fr.lay (.loc (o.dst.getD 0) 0) (.cells cs) fun fr => k (.ptr (.loc (o.dst.getD 0) 0) 0) fr) ?_ (fun R k frx => ?_), hfpc⟩
      · exact l4.bind (c2 := fun _ R fr k => layC (nmR (o.dst.getD 0) 1) cs' 0 fr fun cs fr => fr.lay (.loc (o.dst.getD 0) 0) (.cells cs) fun fr => k (MV.ptr (.loc (o.dst.getD 0) 0) 0) fr)
          (l5.bind (c2 := fun cs R fr k => fr.lay (.loc (o.dst.getD 0) 0) (.cells cs) fun fr => k (MV.ptr (.loc (o.dst.getD 0) 0) 0) fr) (l6.map fun _ => MV.ptr (.loc (o.dst.getD 0) 0) 0))
      · simp only [hbt, hu, hcs, bnd, Option.bind_some]; rw [hop]
    | map =>
      simp only [hbt] at h
      obtain ⟨u, hu, h⟩ := bnd_some h
      obtain ⟨es, hes, h⟩ := bnd_some h
      obtain ⟨fr4, h, l4⟩ := backO_loc hB hs ns (fun h hm => hH h hm) h
      obtain ⟨h, l6⟩ := lay_loc (hfam 0).1 (hfam 0).2 h
      refine ⟨_, _, h, fin (fun R fr k => backO (nmB (o.dst.getD 0)) hs ns 0 fr fun fr => fr.lay (.loc (o.dst.getD 0) 0) (.map es) fun fr => k (.mapr (.loc (o.dst.getD 0) 0)) fr) ?_ (fun R k frx => ?_), hfpc⟩
      · exact l4.bind (c2 := fun _ R fr k => fr.lay (.loc (o.dst.getD 0) 0) (.map es) fun fr => k (MV.mapr (.loc (o.dst.getD 0) 0)) fr) (l6.map fun _ => MV.mapr (.loc (o.dst.getD 0) 0))
      · simp only [hbt, hu, hes, bnd, Option.bind_some]
    | no =>
      simp only [hbt] at h
      split at h
      · rename_i hkr
        obtain ⟨x, hx, h⟩ := bnd_some h
        obtain ⟨fr4, h, l4⟩ := backO_loc hB hs ns (fun h hm => hH h hm) h
        obtain ⟨ms2, fr5, h, l5⟩ := layA_loc hR [.ownK x] h
        refine ⟨_, _, h, fin (fun R fr k => backO (nmB (o.dst.getD 0)) hs ns 0 fr fun fr => layA (nmR (o.dst.getD 0)) [.ownK x] 0 fr fun ms fr => k (unres ms false) fr) ?_ (fun R k frx => ?_), hfpc⟩
        · exact l4.bind (c2 := fun _ R fr k => layA (nmR (o.dst.getD 0)) [.ownK x] 0 fr fun ms fr => k (unres ms false) fr) (l5.map fun ms => unres ms false)
        · simp only [hbt, hkr, if_true, hx, bnd, Option.bind_some]
      · rename_i hkr
        obtain ⟨ms, b, h, hrs⟩ := resS_all h
        obtain ⟨fr4, h, l4⟩ := backO_loc hB hs ns (fun h hm => hH h hm) h
        obtain ⟨ms2, fr5, h, l5⟩ := layA_loc hR ms h
        refine ⟨_, _, h, fin (fun R fr k => backO (nmB (o.dst.getD 0)) hs ns 0 fr fun fr => layA (nmR (o.dst.getD 0)) ms 0 fr fun ms fr => k (unres ms b) fr) ?_ (fun R k frx => ?_), hfpc⟩
        · exact l4.bind (c2 := fun _ R fr k => layA (nmR (o.dst.getD 0)) ms 0 fr fun ms fr => k (unres ms b) fr) (l5.map fun ms => unres ms b)
        · simp only [hbt]; rw [if_neg hkr, hrs]
end
end Kw
namespace Kw
set_option linter.unusedVariables false
set_option linter.unusedSimpArgs false
set_option linter.unusedSectionVars false
open Go
variable [Gl]
section
variable {E : Env} {run : Run} {o : Oper} {fr : Fr} {R : Type} {r : R} {k : Fr → Option R}
theorem parts_refs : ∀ (l : List (Nat × Operand)) (ps : List (Nat × List MV)), partsE fr l = some ps → ∀ h ∈ ps.flatMap (fun p => p.2.flatMap refs1), h ∈ l.flatMap (fun p => refsM (opnd fr p.2))
  | [], ps, h0, h, hm => by cases h0; simp at hm
  | (i, x) :: l, ps, h0, h, hm => by
    unfold partsE at h0
    rw [List.flatMap_cons]
    split at h0
    · rename_i cs ps' ex e
      cases h0
      rw [List.flatMap_cons] at hm
      rcases List.mem_append.1 hm with y | y
      · refine List.mem_append_left _ ?_
        simp only [ex, refsM]; exact y
      · exact List.mem_append_right _ (parts_refs l _ e h y)
    · rename_i ps' e hna
      split at h0
      · rename_i hone
        cases h0
        rw [List.flatMap_cons] at hm
        rcases List.mem_append.1 hm with y | y
        · refine List.mem_append_left _ ?_
          have : refsM (opnd fr x) = refs1 (opnd fr x) := by
            cases hx : opnd fr x <;> first | rfl | exact absurd hx (hna _)
          rw [this]
          simpa using y
        · exact List.mem_append_right _ (parts_refs l _ e h y)
      · cases h0
    · cases h0
theorem freezeP_loc {F W : H → Prop} : ∀ (ps : List (Nat × List MV)) {fr : Fr} {k : List (Nat × List MV) → Fr → Option R}, (∀ h ∈ ps.flatMap (fun p => p.2.flatMap refs1), F h ∧ W h) → freezeP ps fr k = some r → ∃ x fr1, k x fr1 = some r ∧ LocC F W (fun R fr k => freezeP ps fr k) fr x fr1
  | [], fr, k, _, h => ⟨_, _, h, LocC.pure _⟩
  | (i, ms) :: ps, fr, k, hF, h => by
    simp only [freezeP] at h
    obtain ⟨x, fr1, h, l1⟩ := freezeL_loc ms (fun h hm => hF h (by rw [List.flatMap_cons]; exact List.mem_append_left _ hm)) h
    obtain ⟨xs, fr2, h, l2⟩ := freezeP_loc ps (fun h hm => hF h (by rw [List.flatMap_cons]; exact List.mem_append_right _ hm)) h
    exact ⟨_, _, h, l1.bind (c2 := fun x R fr k => freezeP ps fr fun ps fr => k ((i, x) :: ps) fr) (l2.map (fun ps => (i, x) :: ps))⟩
theorem evAppend_loc {F W : H → Prop} {d : Nat} {s : MV} {e : TypeId} {xs : List Row} {k : MV → Fr → Option R} (hF : ∀ h ∈ hOf s, F h ∧ W h) (hd : F (.loc d 0) ∧ W (.loc d 0)) (h : evAppend E d s e xs fr k = some r) : ∃ x fr1, k x fr1 = some r ∧ LocC F W (fun R fr k => evAppend E d s e xs fr k) fr x fr1 := by
  unfold evAppend at h
  split at h
  case isFalse => simp at h
  rename_i hk
  split at h
  · rename_i hd n
    obtain ⟨f1, f2⟩ := hF hd (by simp [hOf])
    split at h
    · simp at h
    rename_i hni
    split at h
    · rename_i rows er
      rcases br_some h with ⟨ec, h⟩ | ⟨_, h⟩
      · refine ⟨_, _, h, LocC.setObj f1 f2 fun R fr' k ⟨e', _⟩ => ?_⟩
        unfold evAppend
        simp only [hk, if_true, hni, e', er, ec, br, cond_true]
        rfl
      · simp at h
    · simp at h
  · rcases br_some h with ⟨ec, h⟩ | ⟨_, h⟩
    · obtain ⟨h, l⟩ := lay_loc hd.1 hd.2 h
      refine ⟨_, _, h, ?_⟩
      have l2 := l.map fun _ => MV.ref (.loc d 0) (nrows xs)
      have e : (fun (R : Type) (fr : Fr) (k : MV → Fr → Option R) => evAppend E d .nils e xs fr k) = fun R fr k => fr.lay (.loc d 0) (.rows xs) fun fr => k (MV.ref (.loc d 0) (nrows xs)) fr := by
        funext R fr k
        unfold evAppend
        simp only [hk, if_true, ec, br, cond_true]
      rw [e]; exact l2
    · simp at h
  · simp at h
theorem evStore_loc {F W : H → Prop} {t : TypeId} {a v : MV} {k : Fr → Option R} (hF : ∀ h ∈ hOf a ++ refsM v, F h ∧ W h) (h : evStore E t a v fr k = some r) : ∃ fr1, k fr1 = some r ∧ LocC F W (fun R fr k => evStore E t a v fr fun fr => k () fr) fr () fr1 := by
  unfold evStore at h
  split at h
  case isFalse => simp at h
  rename_i hk
  split at h
  · rename_i hd off
    obtain ⟨f1, f2⟩ := hF hd (by simp [hOf])
    split at h
    · rename_i cs ec
      split at h
      · rename_i hle
        refine ⟨_, h, LocC.setObj f1 f2 fun R fr' k ⟨e', _⟩ => ?_⟩
        unfold evStore
        simp only [hk, if_true, e', ec, hle]
      · simp at h
    · simp at h
  · rename_i hd n i c
    obtain ⟨f1, f2⟩ := hF hd (by simp [hOf])
    have hR : ∀ h ∈ (cellsOf v).flatMap refs1, F h ∧ W h := fun h hm => hF h (by
      refine List.mem_append_right _ ?_
      by_cases ha : v.isAg = true
      · obtain ⟨cs, e⟩ := ag_of ha
        subst e; exact hm
      · have ha : v.isAg = false := by simpa using ha
        have e1 : cellsOf v = [v] := by cases v <;> first | rfl | (cases ha; done)
        have e2 : refsM v = refs1 v := by cases v <;> first | rfl | (cases ha; done)
        rw [e1] at hm; rw [e2]; simpa using hm)
    obtain ⟨ms, fr1, h, l1⟩ := freezeL_loc _ hR h
    split at h
    · rename_i rows er
      rcases br_some h with ⟨en, h⟩ | ⟨_, h⟩
      case inr => simp at h
      obtain ⟨row, hrow, h⟩ := bnd_some h
      rcases br_some h with ⟨ec, h⟩ | ⟨_, h⟩
      case inr => simp at h
      refine ⟨_, h, ?_⟩
      have l2 : LocC F W (fun R fr (k : Unit → Fr → Option R) => (match fr.obj hd with
          | .rows rows => br (iEq n (nrows rows)) (bnd (rowAt rows i) fun row => br (iLe (c + ms.length : Nat) (rowLen row)) (k () (fr.setObj hd (.rows (setR rows i (setRow row c ms))))) none) none
          | _ => none)) fr1 () (fr1.setObj hd (.rows (setR rows i (setRow row c ms)))) :=
        LocC.setObj f1 f2 fun R fr' k ⟨e', _⟩ => by simp only [e', er, en, br, cond_true, hrow, bnd, Option.bind_some, ec]
      have l3 := l1.bind (c2 := fun ms R fr (k : Unit → Fr → Option R) => (match fr.obj hd with
          | .rows rows => br (iEq n (nrows rows)) (bnd (rowAt rows i) fun row => br (iLe (c + ms.length : Nat) (rowLen row)) (k () (fr.setObj hd (.rows (setR rows i (setRow row c ms))))) none) none
          | _ => none)) l2
      have e : (fun (R : Type) (fr : Fr) (k : Unit → Fr → Option R) => evStore E t (.ptrE hd n i c) v fr fun fr => k () fr) = fun R fr k => freezeL (cellsOf v) fr fun ms fr => (match fr.obj hd with
          | .rows rows => br (iEq n (nrows rows)) (bnd (rowAt rows i) fun row => br (iLe (c + ms.length : Nat) (rowLen row)) (k () (fr.setObj hd (.rows (setR rows i (setRow row c ms))))) none) none
          | _ => none) := by
        funext R fr k
        unfold evStore
        rw [if_pos hk]
        rfl
      rw [e]; exact l3
    · simp at h
  · simp at h
theorem loc_op (hok : anyOk o fr = true) (h : evOp E run o fr k = some r) : ∃ fr1, k fr1 = some r ∧ LocOp E run o fr fr1 := by
  have h0 := h
  unfold evOp at h
  simp only at h
  split at h
  · -- move
    rename_i x ho
    exact ⟨_, h, locOp_pure (fun fr' C R k' => by
      have e := C.op x (by rw [ho]; simp [Op.operands])
      unfold evOp; simp only [ho, e]) fun fr' C => by unfold fp; simp only [ho]⟩
  · rename_i x ho
    exact ⟨_, h, locOp_pure (fun fr' C R k' => by
      have e := C.op x (by rw [ho]; simp [Op.operands])
      unfold evOp; simp only [ho, e]) fun fr' C => by unfold fp; simp only [ho]⟩
  · -- pick
    rename_i c x y ho
    obtain ⟨b, hb, h⟩ := bnd_some h
    have hb' := gBool_some hb
    refine ⟨fr.finish o.dst (if b then opnd fr x else opnd fr y), ?_, locOp_pure (fun fr' C R k' => ?_) fun fr' C => by unfold fp; simp only [ho]⟩
    · cases b <;> exact h
    · have e1 := C.op c (by rw [ho]; simp [Op.operands])
      have e2 := C.op x (by rw [ho]; simp [Op.operands])
      have e3 := C.op y (by rw [ho]; simp [Op.operands])
      unfold evOp; simp only [ho, e1, e2, e3, hb, bnd, Option.bind_some]
      cases b <;> rfl
  · -- alloc
    rename_i t ho
    split at h
    case isFalse => simp at h
    rename_i hk
    have hF : (fp E o fr).wrt (.loc (o.dst.getD 0) 0) := .inr ⟨o.dst.getD 0, 0, by unfold fp; simp only [ho], rfl⟩
    have hT : (fp E o fr).tch (.loc (o.dst.getD 0) 0) := hF.elim (fun x => .inr (.inl x)) fun x => .inr (.inr x)
    obtain ⟨h, l⟩ := lay_loc hT hF h
    exact ⟨_, h, locOp_of (l.map fun _ => MV.ptr (.loc (o.dst.getD 0) 0) 0) (fun fr' C R k' => by unfold evOp; simp only [ho, hk, if_true]) fun fr' C => by unfold fp; simp only [ho]⟩
  · -- box
    rename_i t x ho
    have hF : (fp E o fr).wrt (.loc (o.dst.getD 0) 0) := .inr ⟨o.dst.getD 0, 0, by unfold fp; simp only [ho], rfl⟩
    have hT : (fp E o fr).tch (.loc (o.dst.getD 0) 0) := hF.elim (fun x => .inr (.inl x)) fun x => .inr (.inr x)
    have hf : ∀ fr', Cond E o fr fr' → fp E o fr' = fp E o fr := fun fr' C => by unfold fp; simp only [ho]
    split at h
    · rename_i cs ex
      obtain ⟨h, l⟩ := lay_loc hT hF h
      exact ⟨_, h, locOp_of (l.map fun _ => MV.ptr (.loc (o.dst.getD 0) 0) 0) (fun fr' C R k' => by
        have e := C.op x (by rw [ho]; simp [Op.operands])
        unfold evOp; simp only [ho, e, ex]) hf⟩
    · rename_i hna
      split at h
      · rename_i hone
        obtain ⟨h, l⟩ := lay_loc hT hF h
        refine ⟨_, h, locOp_of (l.map fun _ => MV.ptr (.loc (o.dst.getD 0) 0) 0) (fun fr' C R k' => ?_) hf⟩
        have e := C.op x (by rw [ho]; simp [Op.operands])
        unfold evOp; simp only [ho, e]
        rw [if_pos hone]
      · simp at h
  · -- load
    rename_i t x ho
    obtain ⟨m, h, hl⟩ := evLoad_all h
    refine ⟨_, h, locOp_pure (fun fr' C R k' => ?_) fun fr' C => ?_⟩
    · have e := C.op x (by rw [ho]; simp [Op.operands])
      unfold evOp; simp only [ho, e]
      exact hl fr' (fun h hh => C.ag h (.inl (by unfold fp; simp only [ho]; exact hh))) _ _
    · have e := C.op x (by rw [ho]; simp [Op.operands])
      unfold fp; simp only [ho, e]
  · -- store
    rename_i t x y ho
    have hex : ∀ fr', Cond E o fr fr' → opnd fr' x = opnd fr x ∧ opnd fr' y = opnd fr y := fun fr' C => ⟨C.op x (by rw [ho]; simp [Op.operands]), C.op y (by rw [ho]; simp [Op.operands])⟩
    have hw : ∀ h ∈ hOf (opnd fr x) ++ refsM (opnd fr y), (fp E o fr).tch h ∧ (fp E o fr).wrt h := fun h hm => by
      have : h ∈ (fp E o fr).wr := by unfold fp; simp only [ho]; exact hm
      exact ⟨.inr (.inl this), .inl this⟩
    obtain ⟨fr1, h, l⟩ := evStore_loc hw h
    exact ⟨_, h, locOp_of (l.map fun _ => MV.undef) (fun fr' C R k' => by unfold evOp; simp only [ho, (hex fr' C).1, (hex fr' C).2]) fun fr' C => by unfold fp; simp only [ho, (hex fr' C).1, (hex fr' C).2]⟩
  · -- nilCheck
    rename_i x ho
    obtain ⟨h, hl⟩ := live_all h
    have hf : ∀ fr', Cond E o fr fr' → fp E o fr' = fp E o fr := fun fr' C => by
      have e := C.op x (by rw [ho]; simp [Op.operands])
      unfold fp; simp only [ho, e]
    have key : ∀ m, opnd fr x = m → (∀ (R : Type) (q : MV → Option R), (match m with | .ptr h o' => q (.ptr h o') | .fn g c => q (.fn g c) | .ptrE h n i c => q (.ptrE h n i c) | .ptrS r c => q (.ptrS r c) | _ => none) = q m) → LocOp E run o fr (fr.finish o.dst m) := fun m em hq =>
      locOp_pure (fun fr' C R k' => by
        have e := C.op x (by rw [ho]; simp [Op.operands])
        unfold evOp; simp only [ho, e]
        rw [hl fr' (fun h hh => C.ag h (.inl (by unfold fp; simp only [ho]; exact hh))), em]
        exact hq R fun m => k' (fr'.finish o.dst m)) hf
    split at h
    · rename_i em; exact ⟨_, h, key _ em fun _ _ => rfl⟩
    · rename_i em; exact ⟨_, h, key _ em fun _ _ => rfl⟩
    · rename_i em; exact ⟨_, h, key _ em fun _ _ => rfl⟩
    · rename_i em; exact ⟨_, h, key _ em fun _ _ => rfl⟩
    · simp at h
  · -- binOp
    rename_i op t x y yt ho
    have hf : ∀ fr', Cond E o fr fr' → fp E o fr' = fp E o fr := fun fr' C => by unfold fp; simp only [ho]
    have hex : ∀ fr', Cond E o fr fr' → opnd fr' x = opnd fr x ∧ opnd fr' y = opnd fr y := fun fr' C => ⟨C.op x (by rw [ho]; simp [Op.operands]), C.op y (by rw [ho]; simp [Op.operands])⟩
    split at h
    · rename_i hag
      split at h
      · rename_i xs ys ex ey
        split at h
        · simp at h
        rename_i hg
        obtain ⟨b, hb, h⟩ := bnd_some h
        split at h
        · exact ⟨_, h, locOp_pure (fun fr' C R k' => by
            unfold evOp; simp only [ho, (hex fr' C).1, (hex fr' C).2, hag, if_true, ex, ey, hg, hb, bnd, Option.bind_some]; rfl) hf⟩
        · exact ⟨_, h, locOp_pure (fun fr' C R k' => by
            unfold evOp; simp only [ho, (hex fr' C).1, (hex fr' C).2, hag, if_true, ex, ey, hg, hb, bnd, Option.bind_some]; rfl) hf⟩
        · simp at h
      · simp at h
    · rename_i hag
      split at h
      · rename_i ex
        split at h
        · rename_i hi
          split at h
          · refine ⟨_, h, locOp_pure (fun fr' C R k' => ?_) hf⟩
            unfold evOp; simp only [ho, (hex fr' C).1]; rw [if_neg hag]; simp only [ex, hi, if_true]
          · refine ⟨_, h, locOp_pure (fun fr' C R k' => ?_) hf⟩
            unfold evOp; simp only [ho, (hex fr' C).1]; rw [if_neg hag]; simp only [ex, hi, if_true]
          · simp at h
        · simp at h
      · rename_i hnx
        obtain ⟨m, h, hl⟩ := evBin_all h
        refine ⟨_, h, locOp_pure (fun fr' C R k' => ?_) hf⟩
        unfold evOp; simp only [ho, (hex fr' C).1, (hex fr' C).2]
        rw [if_neg hag]
        exact hl R fun m => k' (fr'.finish o.dst m)
  · -- unOp
    rename_i op t x ho
    have hf : ∀ fr', Cond E o fr fr' → fp E o fr' = fp E o fr := fun fr' C => by unfold fp; simp only [ho]
    split at h
    · rename_i b ex
      exact ⟨_, h, locOp_pure (fun fr' C R k' => by
        have e := C.op x (by rw [ho]; simp [Op.operands])
        unfold evOp; simp only [ho, e, ex]) hf⟩
    · rename_i kd n ex
      exact ⟨_, h, locOp_pure (fun fr' C R k' => by
        have e := C.op x (by rw [ho]; simp [Op.operands])
        unfold evOp; simp only [ho, e, ex]) hf⟩
    · simp at h
  · -- convert
    rename_i src dst x ho
    have hex : ∀ fr', Cond E o fr fr' → opnd fr' x = opnd fr x := fun fr' C => C.op x (by rw [ho]; simp [Op.operands])
    have hf : ∀ fr', Cond E o fr fr' → fp E o fr' = fp E o fr := fun fr' C => by unfold fp; simp only [ho, hex fr' C]
    split at h
    · rename_i e1 e2 ex
      exact ⟨_, h, locOp_pure (fun fr' C R k' => by unfold evOp; simp only [ho, hex fr' C, e1, e2, ex]) hf⟩
    · rename_i e1 e2 ex
      exact ⟨_, h, locOp_pure (fun fr' C R k' => by unfold evOp; simp only [ho, hex fr' C, e1, e2, ex]) hf⟩
    · rename_i e1 e2 ex
      rcases br_some h with ⟨ec, h⟩ | ⟨_, h⟩
      · exact ⟨_, h, locOp_pure (fun fr' C R k' => by unfold evOp; simp only [ho, hex fr' C, e1, e2, ex, ec, br, cond_true]) hf⟩
      · simp at h
    · rename_i hn1 hn2 hn3 e1 e2
      split at h
      · rename_i hby
        obtain ⟨rs, h, hr⟩ := rows_all h
        obtain ⟨s, hs, h⟩ := bnd_some h
        refine ⟨_, h, locOp_pure (fun fr' C R k' => ?_) hf⟩
        have hr' := hr fr' (fun h hh => C.ag h (.inl (by unfold fp; simp only [ho]; exact hh)))
        unfold evOp; simp only [ho, hex fr' C, e1, e2]
        split
        · exfalso; simp_all
        · exfalso; simp_all
        · exfalso; simp_all
        · simp_all only
          cases hn2
          simp only [hby, if_true, bnd, Option.bind_some]
        · exfalso; simp_all
      · simp at h
    · simp at h
  · -- makeFunc
    rename_i f first caps ho
    have hf : ∀ fr', Cond E o fr fr' → fp E o fr' = fp E o fr := fun fr' C => by unfold fp; simp only [ho]
    split at h
    · rename_i gf
      split at h
      · rename_i h0
        refine ⟨_, h, locOp_pure (fun fr' C R k' => ?_) hf⟩
        have e : caps.toList.map (opnd fr') = caps.toList.map (opnd fr) := List.map_congr_left fun x hx => C.op x (by rw [ho]; simp [Op.operands]; right; simpa using hx)
        unfold evOp; simp only [ho, h0, if_true, e]
      · simp at h
    · simp at h
  · -- makeMap
    rename_i t ho
    unfold anyOk at hok; simp only [ho] at hok; simp at hok
  · rename_i t l c ho
    have hF : (fp E o fr).wrt (.loc (o.dst.getD 0) 0) := .inr ⟨o.dst.getD 0, 0, by unfold fp; simp only [ho], rfl⟩
    have hT : (fp E o fr).tch (.loc (o.dst.getD 0) 0) := hF.elim (fun x => .inr (.inl x)) fun x => .inr (.inr x)
    split at h
    · rename_i e _ n _ m e1 el ec
      split at h
      · rename_i hk
        rcases br_some h with ⟨hb, h⟩ | ⟨_, h⟩
        · obtain ⟨h, l1⟩ := lay_loc hT hF h
          refine ⟨_, h, locOp_of (l1.map fun _ => MV.ref (.loc (o.dst.getD 0) 0) (nrows (repR n (zeroRow E.P e)))) (fun fr' C R k' => ?_) fun fr' C => by unfold fp; simp only [ho]⟩
          have x1 := C.op l (by rw [ho]; simp [Op.operands])
          have x2 := C.op c (by rw [ho]; simp [Op.operands])
          unfold evOp; simp only [ho, x1, x2, e1, el, ec, hk, if_true, hb, br, cond_true]
        · simp at h
      · simp at h
    · simp at h
  · -- buildSlice
    rename_i t n parts ho
    split at h
    · rename_i e he
      split at h
      · rename_i ps hp
        have hF : (fp E o fr).wrt (.loc (o.dst.getD 0) 0) := .inr ⟨o.dst.getD 0, 0, by unfold fp; simp only [ho], rfl⟩
        have hT : (fp E o fr).tch (.loc (o.dst.getD 0) 0) := hF.elim (fun x => .inr (.inl x)) fun x => .inr (.inr x)
        have hR : ∀ h ∈ ps.flatMap (fun p => p.2.flatMap refs1), (fp E o fr).tch h ∧ (fp E o fr).wrt h := fun h hm => by
          have : h ∈ (fp E o fr).wr := by unfold fp; simp only [ho]; exact parts_refs _ _ hp h hm
          exact ⟨.inr (.inl this), .inl this⟩
        obtain ⟨ps', fr1, h, l1⟩ := freezeP_loc ps hR h
        split at h
        · rename_i out ht
          split at h
          · rename_i hc
            obtain ⟨h, l2⟩ := lay_loc hT hF h
            have hex : ∀ fr', Cond E o fr fr' → (∀ p ∈ parts.toList, opnd fr' p.2 = opnd fr p.2) := fun fr' C p hp => C.op p.2 (by rw [ho]; simp only [Op.operands]; exact List.mem_map_of_mem (f := (·.2)) hp)
            refine ⟨_, h, locOp_of (c := fun R fr k => freezeP ps fr fun ps fr => (match fillE (fun i => some (i * tsize E.P e, tsize E.P e)) (zeroCs E.P e n) ps with
              | some out => if okT E.P e && (Nat.ble (n * tsize E.P e) 16777216 && out.all MV.svOne) then
                  fr.lay (.loc (o.dst.getD 0) 0) (.rows (chop (tsize E.P e) n out)) fun fr => k (MV.ref (.loc (o.dst.getD 0) 0) (nrows (chop (tsize E.P e) n out))) fr else none
              | none => none)) ?_ (fun fr' C R k' => ?_) fun fr' C => ?_⟩
            · refine l1.bind (c2 := fun ps R fr k => (match fillE (fun i => some (i * tsize E.P e, tsize E.P e)) (zeroCs E.P e n) ps with
                | some out => if okT E.P e && (Nat.ble (n * tsize E.P e) 16777216 && out.all MV.svOne) then
                    fr.lay (.loc (o.dst.getD 0) 0) (.rows (chop (tsize E.P e) n out)) fun fr => k (MV.ref (.loc (o.dst.getD 0) 0) (nrows (chop (tsize E.P e) n out))) fr else none
                | none => none)) ?_
              simp only [ht, hc, if_true]
              exact l2.map (fun _ => MV.ref (.loc (o.dst.getD 0) 0) (nrows (chop (tsize E.P e) n out)))
            · unfold evOp; simp only [ho, he, parts_cond _ (hex fr' C), hp]; rfl
            · unfold fp; simp only [ho]
              congr 1
              exact flatMap_cong fun p hp => by rw [hex fr' C p hp]
          · simp at h
        · simp at h
      · simp at h
    · simp at h
  · -- build
    rename_i t parts ho
    have hf : ∀ fr', Cond E o fr fr' → fp E o fr' = fp E o fr := fun fr' C => by unfold fp; simp only [ho]
    split at h
    · rename_i fs hu
      split at h
      · rename_i ps hp
        split at h
        · rename_i hz
          split at h
          · rename_i out ht
            refine ⟨_, h, locOp_pure (fun fr' C R k' => ?_) hf⟩
            have e : partsE fr' parts.toList = partsE fr parts.toList := parts_cond _ fun p hp => C.op p.2 (by rw [ho]; simp only [Op.operands]; exact List.mem_map_of_mem (f := (·.2)) hp)
            unfold evOp; simp only [ho, hu, e, hp, hz, if_true, ht]
          · simp at h
        · simp at h
      · simp at h
    · simp at h
  · -- slice
    rename_i t x lo hi mx ho
    have hf : ∀ fr', Cond E o fr fr' → fp E o fr' = fp E o fr := fun fr' C => by
      have e := C.op x (by rw [ho]; simp [Op.operands])
      unfold fp; simp only [ho, e]
    have hex : ∀ fr', Cond E o fr fr' → opnd fr' x = opnd fr x ∧ (∀ d, sbound fr' lo d = sbound fr lo d) ∧ ∀ d, sbound fr' hi d = sbound fr hi d := fun fr' C => by
      refine ⟨C.op x (by rw [ho]; simp [Op.operands]), fun d => ?_, fun d => ?_⟩
      · cases lo with
        | none => rfl
        | some y => exact C.op y (by rw [ho]; simp [Op.operands])
      · cases hi with
        | none => rfl
        | some y => exact C.op y (by rw [ho]; simp [Op.operands])
    split at h
    · rename_i e1 ex
      obtain ⟨l, hl, h⟩ := bnd_some h
      obtain ⟨u, hu, h⟩ := bnd_some h
      rcases br_some h with ⟨ec, h⟩ | ⟨_, h⟩
      · exact ⟨_, h, locOp_pure (fun fr' C R k' => by
          unfold evOp; simp only [ho, (hex fr' C).1, (hex fr' C).2.1, (hex fr' C).2.2, e1, ex, hl, hu, bnd, Option.bind_some, ec, br, cond_true]) hf⟩
      · simp at h
    · rename_i e1 ex
      split at h
      · rename_i hi0
        obtain ⟨l, hl, h⟩ := bnd_some h
        obtain ⟨u, hu, h⟩ := bnd_some h
        rcases br_some h with ⟨ec, h⟩ | ⟨_, h⟩
        · exact ⟨_, h, locOp_pure (fun fr' C R k' => by
            unfold evOp; simp only [ho, (hex fr' C).1, (hex fr' C).2.1, (hex fr' C).2.2, e1, ex, hi0, if_true, hl, hu, bnd, Option.bind_some, ec, br, cond_true]) hf⟩
        · simp at h
      · simp at h
    · rename_i e1 ex
      split at h
      · rename_i hi0
        obtain ⟨rs, h, hr⟩ := rows_all h
        obtain ⟨l, hl, h⟩ := bnd_some h
        obtain ⟨u, hu, h⟩ := bnd_some h
        rcases br_some h with ⟨ec, h⟩ | ⟨_, h⟩
        · refine ⟨_, h, locOp_pure (fun fr' C R k' => ?_) hf⟩
          have hr' := hr fr' (fun h hh => C.ag h (.inl (by unfold fp; simp only [ho, ex]; exact hh)))
          unfold evOp; simp only [ho, (hex fr' C).1, (hex fr' C).2.1, (hex fr' C).2.2, e1, ex, hi0, if_true]
          rw [hr']
          simp only [hl, hu, bnd, Option.bind_some, ec, br, cond_true]
        · simp at h
      · simp at h
    · simp at h
  · -- fieldAddr
    rename_i t x f ho
    obtain ⟨p, hp, h⟩ := bnd_some h
    split at h
    · simp at h
    rename_i hz
    obtain ⟨h, hl⟩ := live_all h
    have hex : ∀ fr', Cond E o fr fr' → opnd fr' x = opnd fr x := fun fr' C => C.op x (by rw [ho]; simp [Op.operands])
    have hf : ∀ fr', Cond E o fr fr' → fp E o fr' = fp E o fr := fun fr' C => by unfold fp; simp only [ho, hex fr' C]
    have hl' := fun fr' (C : Cond E o fr fr') => hl fr' (fun h hh => C.ag h (.inl (by unfold fp; simp only [ho]; exact hh)))
    split at h
    · rename_i em
      exact ⟨_, h, locOp_pure (fun fr' C R k' => by
        unfold evOp; simp only [ho, hex fr' C, hp, bnd, Option.bind_some, hz, if_false]; rw [hl' fr' C]; simp only [em]) hf⟩
    · rename_i em
      exact ⟨_, h, locOp_pure (fun fr' C R k' => by
        unfold evOp; simp only [ho, hex fr' C, hp, bnd, Option.bind_some, hz, if_false]; rw [hl' fr' C]; simp only [em]) hf⟩
    · rename_i em
      exact ⟨_, h, locOp_pure (fun fr' C R k' => by
        unfold evOp; simp only [ho, hex fr' C, hp, bnd, Option.bind_some, hz, if_false]; rw [hl' fr' C]; simp only [em]) hf⟩
    · simp at h
  · -- field
    rename_i t x f ho
    obtain ⟨p, hp, h⟩ := bnd_some h
    have hex : ∀ fr', Cond E o fr fr' → opnd fr' x = opnd fr x := fun fr' C => C.op x (by rw [ho]; simp [Op.operands])
    have hf : ∀ fr', Cond E o fr fr' → fp E o fr' = fp E o fr := fun fr' C => by unfold fp; simp only [ho]
    split at h
    · rename_i cs em
      split at h
      · rename_i hk
        exact ⟨_, h, locOp_pure (fun fr' C R k' => by
          unfold evOp; simp only [ho, hex fr' C, hp, bnd, Option.bind_some, em, hk, if_true]) hf⟩
      · simp at h
    · simp at h
  · -- indexAddr
    rename_i t x i ho
    have hex : ∀ fr', Cond E o fr fr' → opnd fr' x = opnd fr x ∧ opnd fr' i = opnd fr i := fun fr' C => ⟨C.op x (by rw [ho]; simp [Op.operands]), C.op i (by rw [ho]; simp [Op.operands])⟩
    have hf : ∀ fr', Cond E o fr fr' → fp E o fr' = fp E o fr := fun fr' C => by unfold fp; simp only [ho, (hex fr' C).1]
    split at h
    · rename_i ei em
      obtain ⟨e, he, h⟩ := bnd_some h
      obtain ⟨row, hr, h⟩ := bnd_some h
      exact ⟨_, h, locOp_pure (fun fr' C R k' => by
        unfold evOp; simp only [ho, (hex fr' C).1, (hex fr' C).2, ei, em, he, hr, bnd, Option.bind_some]) hf⟩
    · rename_i ei em
      obtain ⟨e, he, h⟩ := bnd_some h
      obtain ⟨rs, h, hl⟩ := rows_all h
      obtain ⟨row, hr, h⟩ := bnd_some h
      exact ⟨_, h, locOp_pure (fun fr' C R k' => by
        unfold evOp; simp only [ho, (hex fr' C).1, (hex fr' C).2, ei, em, he, bnd, Option.bind_some]
        rw [hl fr' (fun h hh => C.ag h (.inl (by unfold fp; simp only [ho, em]; exact hh)))]
        simp only [hr, Option.bind_some]) hf⟩
    · simp at h
  · -- index
    rename_i t x i ho
    have hex : ∀ fr', Cond E o fr fr' → opnd fr' x = opnd fr x ∧ opnd fr' i = opnd fr i := fun fr' C => ⟨C.op x (by rw [ho]; simp [Op.operands]), C.op i (by rw [ho]; simp [Op.operands])⟩
    have hf : ∀ fr', Cond E o fr fr' → fp E o fr' = fp E o fr := fun fr' C => by unfold fp; simp only [ho]
    split at h
    · rename_i hs
      split at h
      · rename_i ex ei
        obtain ⟨b, hb, h⟩ := bnd_some h
        exact ⟨_, h, locOp_pure (fun fr' C R k' => by
          unfold evOp; simp only [ho, hs, if_true, (hex fr' C).1, (hex fr' C).2, ei, ex, hb, bnd, Option.bind_some]) hf⟩
      · simp at h
    · simp at h
  · -- extract
    rename_i x j ho
    have hex : ∀ fr', Cond E o fr fr' → opnd fr' x = opnd fr x := fun fr' C => C.op x (by rw [ho]; simp [Op.operands])
    have hf : ∀ fr', Cond E o fr fr' → fp E o fr' = fp E o fr := fun fr' C => by unfold fp; simp only [ho]
    split at h
    · rename_i vs em
      split at h
      · rename_i hj
        exact ⟨_, h, locOp_pure (fun fr' C R k' => by unfold evOp; simp only [ho, hex fr' C, em, hj, if_true]) hf⟩
      · simp at h
    · simp at h
  · rename_i t x key ok ho
    unfold anyOk at hok; simp only [ho] at hok; simp at hok
  · rename_i t m key x ho
    unfold anyOk at hok; simp only [ho] at hok; simp at hok
  · -- call
    rename_i c ho
    split at h
    · rename_i hc
      have hargs : ∀ fr', Cond E o fr fr' → ∀ x ∈ c.args.toList, opnd fr' x = opnd fr x := fun fr' C x hx => C.op x (by rw [ho]; simp only [Op.operands, Call.operands, hc]; simpa using hx)
      have hf : ∀ fr', Cond E o fr fr' → fp E o fr' = fp E o fr := fun fr' C => by
        unfold fp; simp only [ho, hc]
        congr 1
        exact flatMap_cong fun x hx => by rw [hargs fr' C x hx]
      split at h
      · rename_i t x et ea
        have hx : ∀ fr', Cond E o fr fr' → opnd fr' x = opnd fr x := fun fr' C => hargs fr' C x (by rw [ea]; simp)
        split at h
        · rename_i e1 e2
          exact ⟨_, h, locOp_pure (fun fr' C R k' => by unfold evOp; simp only [ho, hc, et, ea, hx fr' C, e1, e2]) hf⟩
        · rename_i e1
          obtain ⟨rs, h, hr⟩ := rows_all h
          refine ⟨_, h, locOp_pure (fun fr' C R k' => ?_) hf⟩
          unfold evOp; simp only [ho, hc, et, ea, hx fr' C, e1]
          rw [hr fr' (fun h hh => C.ag h (.inl (by unfold fp; simp only [ho, hc, ea]; simpa using hh)))]
        · simp at h
      · simp at h
    · rename_i hc
      have hargs : ∀ fr', Cond E o fr fr' → ∀ x ∈ c.args.toList, opnd fr' x = opnd fr x := fun fr' C x hx => C.op x (by rw [ho]; simp only [Op.operands, Call.operands, hc]; simpa using hx)
      have hf : ∀ fr', Cond E o fr fr' → fp E o fr' = fp E o fr := fun fr' C => by
        unfold fp; simp only [ho, hc]
        congr 1
        exact flatMap_cong fun x hx => by rw [hargs fr' C x hx]
      split at h
      · rename_i x y ea
        split at h
        · rename_i e1 e2
          exact ⟨_, h, locOp_pure (fun fr' C R k' => by unfold evOp; simp only [ho, hc, ea, hargs fr' C x (by rw [ea]; simp), hargs fr' C y (by rw [ea]; simp), e1, e2]) hf⟩
        · simp at h
      · simp at h
    · rename_i hc
      have hargs : ∀ fr', Cond E o fr fr' → ∀ x ∈ c.args.toList, opnd fr' x = opnd fr x := fun fr' C x hx => C.op x (by rw [ho]; simp only [Op.operands, Call.operands, hc]; simpa using hx)
      have hf : ∀ fr', Cond E o fr fr' → fp E o fr' = fp E o fr := fun fr' C => by
        unfold fp; simp only [ho, hc]
        congr 1
        exact flatMap_cong fun x hx => by rw [hargs fr' C x hx]
      split at h
      · rename_i x y ea
        split at h
        · rename_i e1 e2
          exact ⟨_, h, locOp_pure (fun fr' C R k' => by unfold evOp; simp only [ho, hc, ea, hargs fr' C x (by rw [ea]; simp), hargs fr' C y (by rw [ea]; simp), e1, e2]) hf⟩
        · simp at h
      · simp at h
    · rename_i hc
      have hargs : ∀ fr', Cond E o fr fr' → ∀ x ∈ c.args.toList, opnd fr' x = opnd fr x := fun fr' C x hx => C.op x (by rw [ho]; simp only [Op.operands, Call.operands, hc]; simpa using hx)
      split at h
      · rename_i t tx x y et ea
        have hx : ∀ fr', Cond E o fr fr' → opnd fr' x = opnd fr x := fun fr' C => hargs fr' C x (by rw [ea]; simp)
        have hy : ∀ fr', Cond E o fr fr' → opnd fr' y = opnd fr y := fun fr' C => hargs fr' C y (by rw [ea]; simp)
        have hf : ∀ fr', Cond E o fr fr' → fp E o fr' = fp E o fr := fun fr' C => by
          unfold fp; simp only [ho, hc, ea, hx fr' C, hy fr' C]
        have hw : ∀ h ∈ hOf (opnd fr x), (fp E o fr).tch h ∧ (fp E o fr).wrt h := fun h hm => by
          have : h ∈ (fp E o fr).wr := by unfold fp; simp only [ho, hc, ea]; exact hm
          exact ⟨.inr (.inl this), .inl this⟩
        have hd : (fp E o fr).tch (.loc (o.dst.getD 0) 0) ∧ (fp E o fr).wrt (.loc (o.dst.getD 0) 0) := by
          have : (fp E o fr).fam = some (o.dst.getD 0) := by unfold fp; simp only [ho, hc, ea]
          exact ⟨.inr (.inr ⟨_, _, this, rfl⟩), .inr ⟨_, _, this, rfl⟩⟩
        split at h
        · rename_i e1 e2
          split at h
          · rename_i b ey
            split at h
            · rename_i hb
              obtain ⟨m, fr1, h, l⟩ := evAppend_loc hw hd h
              exact ⟨_, h, locOp_of l (fun fr' C R k' => by unfold evOp; simp only [ho, hc, et, ea, hx fr' C, hy fr' C, e1, e2, ey, hb, if_true]) hf⟩
            · simp at h
          · simp at h
        · rename_i e1 e2
          obtain ⟨rs, h, hr⟩ := rows_all h
          obtain ⟨m, fr1, h, l⟩ := evAppend_loc hw hd h
          refine ⟨_, h, locOp_of l (fun fr' C R k' => ?_) hf⟩
          unfold evOp; simp only [ho, hc, et, ea, hx fr' C, hy fr' C, e1, e2]
          rw [hr fr' (fun h hh => C.ag h (.inl (by unfold fp; simp only [ho, hc, ea]; exact hh)))]
        · simp at h
      · simp at h
    · rename_i x hc
      split at h
      case h_2 => simp at h
      rename_i gf caps ex
      have hops : ∀ fr', Cond E o fr fr' → opnd fr' x = opnd fr x ∧ c.args.toList.map (opnd fr') = c.args.toList.map (opnd fr) := fun fr' C =>
        ⟨C.op x (by rw [ho]; simp [Op.operands, Call.operands, hc]), List.map_congr_left fun y hy => C.op y (by rw [ho]; simp only [Op.operands, Call.operands, hc]; simp; right; simpa using hy)⟩
      have hfp : fp E o fr = fpCall E gf (c.args.toList.map (opnd fr) ++ caps) fr o := by unfold fp; simp only [ho, hc, ex]
      unfold evCall at h
      obtain ⟨m, fr1, h, l, hf⟩ := evCallM_loc h
      refine ⟨_, h, locOp_of (by rw [hfp]; exact l) (fun fr' C R k' => ?_) fun fr' C => ?_⟩
      · unfold evOp; simp only [ho, hc, (hops fr' C).1, ex, (hops fr' C).2]; rfl
      · have : fp E o fr' = fpCall E gf (c.args.toList.map (opnd fr) ++ caps) fr' o := by unfold fp; simp only [ho, hc, (hops fr' C).1, ex, (hops fr' C).2]
        rw [this, hfp]
        exact hf fr' fun h hh => C.ag h (by rw [hfp]; exact hh)
    · simp at h
  · simp at h
end
end Kw
