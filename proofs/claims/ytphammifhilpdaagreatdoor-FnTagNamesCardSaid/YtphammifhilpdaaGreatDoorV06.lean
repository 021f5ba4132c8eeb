import Derived.Test.YtphammifhilpdaaGreatDoorV05
namespace Kw
open Go
def Fp.tch (p : Fp) (h : H) : Prop := h ∈ p.rd ∨ h ∈ p.wr ∨ ∃ d j, p.fam = some d ∧ h = .loc d j
def Fp.wrt (p : Fp) (h : H) : Prop := h ∈ p.wr ∨ ∃ d j, p.fam = some d ∧ h = .loc d j
def setD (sl : List MV) (d : Option Tmp) (m : MV) : List MV := match d with | some d => sl.set d m | none => sl
theorem finish_sl (fr : Fr) (d : Option Tmp) (m : MV) : (fr.finish d m).sl = setD fr.sl d m := by cases d <;> rfl
theorem finish_ob (fr : Fr) (d : Option Tmp) (m : MV) : (fr.finish d m).ob = fr.ob := by cases d <;> rfl
theorem ag_finish {fr fr' : Fr} {h : H} (a : AgH fr fr' h) (d : Option Tmp) (m m' : MV) : AgH (fr.finish d m) (fr'.finish d m') h := by
  unfold AgH; rw [finish_ob, finish_ob]; exact a
theorem ag_finish' {fr fr' : Fr} {h : H} (a : AgH fr fr' h) (d : Option Tmp) (m : MV) : AgH fr (fr'.finish d m) h := by
  unfold AgH; rw [finish_ob]; exact a
section
variable {E : Env} {run : Run} {o : Oper} {fr fr1 : Fr}
structure Cond (E : Env) (o : Oper) (fr fr' : Fr) : Prop where
  op : ∀ x ∈ o.op.operands.toList, opnd fr' x = opnd fr x
  ag : ∀ h, (fp E o fr).tch h → AgH fr fr' h
def LocOp (E : Env) (run : Run) (o : Oper) (fr fr1 : Fr) : Prop :=
  ∃ m, fr1.sl = setD fr.sl o.dst m ∧ (∀ h, ¬ (fp E o fr).wrt h → AgH fr fr1 h) ∧ (∀ (R : Type) (k' : Fr → Option R), evOp E run o fr k' = k' fr1) ∧
  ∀ fr', Cond E o fr fr' → ∃ fr1', (∀ (R : Type) (k' : Fr → Option R), evOp E run o fr' k' = k' fr1') ∧ fp E o fr' = fp E o fr ∧ (∀ h, (fp E o fr).tch h → AgH fr1 fr1' h) ∧ (∀ h, ¬ (fp E o fr).wrt h → AgH fr' fr1' h) ∧
    fr1'.sl = setD fr'.sl o.dst m
theorem Cond.refl (fr : Fr) : Cond E o fr fr := ⟨fun _ _ => rfl, fun _ _ => AgH.refl _ _⟩
theorem locOp_of {c : (R : Type) → Fr → (MV → Fr → Option R) → Option R} {m : MV} {fr0 : Fr} (hc : LocC (fp E o fr).tch (fp E o fr).wrt c fr m fr0)
    (he : ∀ fr', Cond E o fr fr' → ∀ (R : Type) (k' : Fr → Option R), evOp E run o fr' k' = c R fr' fun m fr => k' (fr.finish o.dst m)) (hf : ∀ fr', Cond E o fr fr' → fp E o fr' = fp E o fr) : LocOp E run o fr (fr0.finish o.dst m) := by
  refine ⟨m, by rw [finish_sl, hc.2.1], fun h hh => ag_finish' (hc.same h hh) _ _, fun R k' => by rw [he fr (Cond.refl fr), hc.1], fun fr' C => ?_⟩
  obtain ⟨fr1', e1, s1, a1, w1⟩ := hc.2.2 fr' C.ag
  exact ⟨fr1'.finish o.dst m, fun R k' => by rw [he fr' C, e1], hf fr' C, fun h hh => ag_finish (a1 h hh) _ _ _, fun h hh => ag_finish' (w1 h hh) _ _, by rw [finish_sl, s1]⟩
/-- operations that look at no memory -/
theorem locOp_pure {m : MV} (he : ∀ fr', Cond E o fr fr' → ∀ (R : Type) (k' : Fr → Option R), evOp E run o fr' k' = k' (fr'.finish o.dst m)) (hf : ∀ fr', Cond E o fr fr' → fp E o fr' = fp E o fr) : LocOp E run o fr (fr.finish o.dst m) :=
  locOp_of (LocC.pure m) he hf
variable {R : Type} {r : R} {k : Fr → Option R}
theorem rows_all {m : MV} {q : List Row → Option R} (h : fr.rows m q = some r) : ∃ rs, q rs = some r ∧ ∀ fr', (∀ h ∈ hOf m, AgH fr fr' h) → ∀ (R : Type) (k' : List Row → Option R), fr'.rows m k' = k' rs := by
  cases m with
  | sl rs => exact ⟨rs, h, fun _ _ _ _ => rfl⟩
  | nils => exact ⟨[], h, fun _ _ _ _ => rfl⟩
  | ref hd n =>
    simp only [Fr.rows] at h
    split at h
    · rename_i x e
      rcases br_some h with ⟨en, h⟩ | ⟨_, h⟩
      · exact ⟨x, h, fun fr' ha R k' => by simp only [Fr.rows, (ha hd (by simp [hOf])).obj, e, en, br]; rfl⟩
      · simp at h
    · rename_i x e
      rcases br_some h with ⟨en, h⟩ | ⟨_, h⟩
      · exact ⟨x, h, fun fr' ha R k' => by simp only [Fr.rows, (ha hd (by simp [hOf])).obj, e, en, br]; rfl⟩
      · simp at h
    · simp at h
  | _ => simp [Fr.rows] at h
theorem live_all {m : MV} {q : Option R} (h : fr.live m q = some r) : q = some r ∧ ∀ fr', (∀ h ∈ hOf m, AgH fr fr' h) → ∀ (R : Type) (k' : Option R), fr'.live m k' = k' := by
  cases m with
  | ptr hd o =>
    simp only [Fr.live] at h
    split at h
    · rename_i cs e
      exact ⟨h, fun fr' ha R k' => by simp only [Fr.live, (ha hd (by simp [hOf])).obj, e]⟩
    · simp at h
  | ptrE hd n i c =>
    simp only [Fr.live] at h
    split at h
    · rename_i x e
      rcases br_some h with ⟨en, h⟩ | ⟨_, h⟩
      · exact ⟨h, fun fr' ha R k' => by simp only [Fr.live, (ha hd (by simp [hOf])).obj, e, en, br]; rfl⟩
      · simp at h
    · rename_i x e
      rcases br_some h with ⟨en, h⟩ | ⟨_, h⟩
      · exact ⟨h, fun fr' ha R k' => by simp only [Fr.live, (ha hd (by simp [hOf])).obj, e, en, br]; rfl⟩
      · simp at h
    · simp at h
  | _ => exact ⟨h, fun _ _ _ _ => rfl⟩
theorem opn1_all {own : Bool} {sh : Sh} {m : MV} {q : MV → Option R} (h : opn1 own sh m q = some r) : q m = some r ∧ ∀ (R : Type) (k' : MV → Option R), opn1 own sh m k' = k' m := by
  unfold opn1 at h ⊢
  split at h
  · obtain ⟨b, hb, hk⟩ := bnd_some h; have := gBool_some hb; subst this; exact ⟨hk, fun _ _ => rfl⟩
  · obtain ⟨b, hb, hk⟩ := bnd_some h; have := gInt_some hb; subst this; exact ⟨hk, fun _ _ => by simp only [hb, bnd]; rfl⟩
  · obtain ⟨b, hb, hk⟩ := bnd_some h; have := gStr_some hb; subst this; exact ⟨hk, fun _ _ => rfl⟩
  · split at h
    · rename_i ho; obtain ⟨b, hb, hk⟩ := bnd_some h; have := gOwn_some hb; subst this; exact ⟨hk, fun _ _ => by simp only [ho, if_true]; rfl⟩
    · rename_i ho; obtain ⟨b, hb, hk⟩ := bnd_some h; have := gSl_some hb; subst this; exact ⟨hk, fun _ _ => by simp only [ho]; rfl⟩
  · obtain ⟨b, hb, hk⟩ := bnd_some h; have := gIf_some hb; subst this; exact ⟨hk, fun _ _ => rfl⟩
  · simp at h
theorem opn_all {own : Bool} : ∀ (shs : List Sh) (row : Row) (c : Nat) (q : List MV → Option R), opn own shs row c q = some r → ∃ ms, q ms = some r ∧ ∀ (R : Type) (k' : List MV → Option R), opn own shs row c k' = k' ms
  | [], row, c, q, h => ⟨[], h, fun _ _ => rfl⟩
  | sh :: shs, row, c, q, h => by
    unfold opn at h
    obtain ⟨h, h1⟩ := opn1_all h
    obtain ⟨ms, h, h2⟩ := opn_all shs row (c + 1) _ h
    exact ⟨_, h, fun R k' => by unfold opn; rw [h1, h2]⟩
theorem evLoad_all {t : TypeId} {a : MV} {q : MV → Option R} (h : evLoad E t a fr q = some r) : ∃ m, q m = some r ∧ ∀ fr', (∀ h ∈ hOf a, AgH fr fr' h) → ∀ (R : Type) (k' : MV → Option R), evLoad E t a fr' k' = k' m := by
  unfold evLoad at h ⊢
  split at h
  case isFalse => simp at h
  rename_i hk
  simp only [hk, if_true]
  split at h
  · rename_i hd off
    split at h
    · rename_i cs ec
      split at h
      · rename_i hle
        exact ⟨_, h, fun fr' ha R k' => by simp only [(ha hd (by simp [hOf])).obj, ec, hle, if_true]⟩
      · simp at h
    · simp at h
  · rename_i row c
    obtain ⟨ms, h, h1⟩ := opn_all _ _ _ _ h
    exact ⟨_, h, fun fr' ha R k' => by simp only [h1]⟩
  · rename_i hd n i c
    split at h
    · rename_i rows e
      rcases br_some h with ⟨en, h⟩ | ⟨_, h⟩
      · obtain ⟨row, hr, h⟩ := bnd_some h
        obtain ⟨ms, h, h1⟩ := opn_all _ _ _ _ h
        exact ⟨_, h, fun fr' ha R k' => by simp only [(ha hd (by simp [hOf])).obj, e, en, br, hr, bnd, Option.bind_some, h1]; rfl⟩
      · simp at h
    · rename_i rows e
      rcases br_some h with ⟨en, h⟩ | ⟨_, h⟩
      · obtain ⟨row, hr, h⟩ := bnd_some h
        obtain ⟨ms, h, h1⟩ := opn_all _ _ _ _ h
        exact ⟨_, h, fun fr' ha R k' => by simp only [(ha hd (by simp [hOf])).obj, e, en, br, hr, bnd, Option.bind_some, h1]; rfl⟩
      · simp at h
    · simp at h
  · simp at h
theorem evBin_all {ub : Bool} {op : BinOp} {x y : MV} {q : MV → Option R} (h : evBin ub op x y q = some r) : ∃ m, q m = some r ∧ ∀ (R : Type) (k' : MV → Option R), evBin ub op x y k' = k' m := by
  unfold evBin at h
  split at h
  · split at h
    · rename_i e
      subst e
      split at h
      all_goals first
        | (simp at h; done)
        | exact ⟨_, h, fun R k' => by simp only [evBin, if_true]⟩
        | (rcases br_some h with ⟨_, h⟩ | ⟨e, h⟩
           · simp at h
           · exact ⟨_, h, fun R k' => by simp only [evBin, if_true, e, br, cond_false]⟩)
    · simp at h
  · split at h
    · rcases br_some h with ⟨e, h⟩ | ⟨_, h⟩
      · exact ⟨_, h, fun R k' => by simp only [evBin, e, br, cond_true]⟩
      · simp at h
    · exact ⟨_, h, fun R k' => rfl⟩
    · exact ⟨_, h, fun R k' => rfl⟩
    · simp at h
  · split at h
    · rename_i hu
      split at h
      · exact ⟨_, h, fun R k' => by simp only [evBin, hu, if_true]⟩
      · exact ⟨_, h, fun R k' => by simp only [evBin, hu, if_true]⟩
      · simp at h
    · simp at h
  · simp at h
theorem parts_cond {fr' : Fr} : ∀ ps : List (Nat × Operand), (∀ p ∈ ps, opnd fr' p.2 = opnd fr p.2) → partsE fr' ps = partsE fr ps
  | [], _ => rfl
  | (i, x) :: ps, h => by
    unfold partsE
    rw [show opnd fr' x = opnd fr x from h (i, x) (by simp), parts_cond ps fun p hp => h p (List.mem_cons_of_mem _ hp)]
end
end Kw
namespace Kw
open Go
section
variable {E : Env} {run : Run} {o : Oper} {fr : Fr} {R : Type} {r : R}
theorem res1_all {own : Bool} {t : TypeId} {m : MV} {q : MV → Option R} (h : res1 E own t m q = some r) : q m = some r ∧ ∀ (R : Type) (k' : MV → Option R), res1 E own t m k' = k' m := by
  unfold res1 at h ⊢
  split at h
  · rename_i ha
    simp only [ha, if_true]
    obtain ⟨cs, hc, h⟩ := bnd_some h
    obtain ⟨em, hl⟩ := gAggN_some hc
    obtain ⟨ms, hk, h1⟩ := opn_all _ _ _ _ h
    have e : (cs.drop 0).take (tshape E.P t).length = cs := by rw [List.drop_zero, ← hl, List.take_length]
    have ems : ms = cs := by
      have h2 := h1 (List MV) some
      have h3 := opn_eq (own := own) (tshape E.P t) cs 0 (some : List MV → Option (List MV)) (r := ms) h2
      rw [e] at h3
      exact (Option.some.inj h3.1).symm
    subst ems
    rw [em]
    refine ⟨hk, fun R k' => ?_⟩
    have hc' : gAggN (tshape E.P t).length (.agg ms) = some ms := by rw [← em]; exact hc
    simp only [hc', bnd, Option.bind_some, h1]
  · rename_i ha
    split at h
    · rename_i sh hs
      obtain ⟨h, h1⟩ := opn1_all h
      refine ⟨h, fun R k' => ?_⟩
      rw [if_neg ha]
      simp only [hs, h1]
    · simp at h
theorem resT_all {own : Bool} : ∀ (ts : List TypeId) (ms : List MV) (j : Nat) (q : List MV → Option R), resT E own ts ms j q = some r → ∃ x, q x = some r ∧ ∀ (R : Type) (k' : List MV → Option R), resT E own ts ms j k' = k' x
  | [], ms, j, q, h => ⟨[], h, fun _ _ => rfl⟩
  | t :: ts, ms, j, q, h => by
    unfold resT at h
    obtain ⟨h, h1⟩ := res1_all h
    obtain ⟨x, h, h2⟩ := resT_all ts ms (j + 1) _ h
    exact ⟨_, h, fun R k' => by unfold resT; rw [h1, h2]⟩
theorem resS_all {own : Bool} {t : TypeId} {m : MV} {q : List MV → Bool → Option R} (h : resS E own t m q = some r) : ∃ ms b, q ms b = some r ∧ ∀ (R : Type) (k' : List MV → Bool → Option R), resS E own t m k' = k' ms b := by
  unfold resS at h ⊢
  split at h
  · rename_i ts hu
    obtain ⟨vs, hc, h⟩ := bnd_some h
    obtain ⟨x, h, h1⟩ := resT_all _ _ _ _ h
    exact ⟨_, _, h, fun R k' => by simp only [hu, hc, bnd, Option.bind_some, h1]⟩
  · obtain ⟨h, h1⟩ := res1_all h
    exact ⟨_, _, h, fun R k' => by rw [h1]⟩
theorem shape1_all {f : H → Option H} {old new : MV} {q : MV → Option R} (h : shape1 f old new q = some r) : ∃ x, q x = some r ∧ ∀ (R : Type) (k' : MV → Option R), shape1 f old new k' = k' x := by
  unfold shape1 at h ⊢
  split at h
  · obtain ⟨b, hb, hk⟩ := bnd_some h; exact ⟨_, hk, fun R k' => by simp only [hb, bnd, Option.bind_some]⟩
  · obtain ⟨b, hb, hk⟩ := bnd_some h; exact ⟨_, hk, fun R k' => by simp only [hb, bnd, Option.bind_some]⟩
  · obtain ⟨b, hb, hk⟩ := bnd_some h; exact ⟨_, hk, fun R k' => by simp only [hb, bnd, Option.bind_some]⟩
  · obtain ⟨b, hb, hk⟩ := bnd_some h; exact ⟨_, hk, fun R k' => by simp only [hb, bnd, Option.bind_some]⟩
  · obtain ⟨b, hb, hk⟩ := bnd_some h; exact ⟨_, hk, fun R k' => by simp only [hb, bnd, Option.bind_some]⟩
  · obtain ⟨b, hb, hk⟩ := bnd_some h; exact ⟨_, hk, fun R k' => by simp only [hb, bnd, Option.bind_some]⟩
theorem shapeL_all {f : H → Option H} : ∀ (os : List MV) (j : Nat) (ns : List MV) (q : List MV → Option R), shapeL f os j ns q = some r → ∃ x, q x = some r ∧ ∀ (R : Type) (k' : List MV → Option R), shapeL f os j ns k' = k' x
  | [], j, ns, q, h => ⟨[], h, fun _ _ => rfl⟩
  | o :: os, j, ns, q, h => by
    unfold shapeL at h
    obtain ⟨x, h, h1⟩ := shape1_all h
    obtain ⟨xs, h, h2⟩ := shapeL_all os (j + 1) ns _ h
    exact ⟨_, h, fun R k' => by unfold shapeL; rw [h1, h2]⟩
theorem likeO_all {f : H → Option H} : ∀ (os : List Obj) (rs : List Obj) (q : List Obj → Option R), likeO f os rs q = some r → ∃ x, q x = some r ∧ ∀ (R : Type) (k' : List Obj → Option R), likeO f os rs k' = k' x
  | [], rs, q, h => ⟨[], h, fun _ _ => rfl⟩
  | .cells cs :: os, rs, q, h => by
    simp only [likeO] at h
    obtain ⟨ns, hn, hk⟩ := bnd_some h
    obtain ⟨x, hk, h1⟩ := shapeL_all _ _ _ _ hk
    obtain ⟨xs, hk, h2⟩ := likeO_all os (tlO rs) _ hk
    exact ⟨_, hk, fun R k' => by simp only [likeO, hn, bnd, Option.bind_some, h1, h2]⟩
  | .map es :: os, rs, q, h => by
    simp only [likeO] at h
    obtain ⟨ns, hn, hk⟩ := bnd_some h
    obtain ⟨xs, hk, h2⟩ := likeO_all os (tlO rs) _ hk
    exact ⟨_, hk, fun R k' => by simp only [likeO, hn, bnd, Option.bind_some, h2]⟩
  | .rows x :: os, rs, q, h => by
    simp only [likeO] at h
    obtain ⟨ns, hn, hk⟩ := bnd_some h
    rcases br_some hk with ⟨hc, hk⟩ | ⟨_, hk⟩
    · obtain ⟨xs, hk, h2⟩ := likeO_all os (tlO rs) _ hk
      exact ⟨_, hk, fun R k' => by simp only [likeO, hn, bnd, Option.bind_some, hc, br, cond_true, h2]⟩
    · simp at hk
  | .none :: os, rs, q, h => by simp [likeO] at h
  | .froz _ :: os, rs, q, h => by simp [likeO] at h
theorem lend1_all {m : MV} {q : MV → Option R} (h : lend1 fr m q = some r) : ∃ x, q x = some r ∧ ∀ fr', (∀ h ∈ refs1 m, AgH fr fr' h) → ∀ (R : Type) (k' : MV → Option R), lend1 fr' m k' = k' x := by
  cases m with
  | ref hd n =>
    simp only [lend1] at h
    split at h
    · rename_i x e
      rcases br_some h with ⟨en, h⟩ | ⟨_, h⟩
      · exact ⟨_, h, fun fr' ha R k' => by simp only [lend1, (ha hd (by simp [refs1])).obj, e, en, br]; rfl⟩
      · simp at h
    · rename_i x e
      rcases br_some h with ⟨en, h⟩ | ⟨_, h⟩
      · exact ⟨_, h, fun fr' ha R k' => by simp only [lend1, (ha hd (by simp [refs1])).obj, e, en, br]; rfl⟩
      · simp at h
    · simp at h
  | _ => exact ⟨_, h, fun _ _ _ _ => rfl⟩
theorem lendL_all : ∀ (ms : List MV) {q : List MV → Option R}, lendL fr ms q = some r → ∃ x, q x = some r ∧ ∀ fr', (∀ h ∈ ms.flatMap refs1, AgH fr fr' h) → ∀ (R : Type) (k' : List MV → Option R), lendL fr' ms k' = k' x
  | [], q, h => ⟨[], h, fun _ _ _ _ => rfl⟩
  | m :: ms, q, h => by
    simp only [lendL] at h
    obtain ⟨x, h, h1⟩ := lend1_all h
    obtain ⟨xs, h, h2⟩ := lendL_all ms h
    exact ⟨_, h, fun fr' ha R k' => by simp only [lendL]; rw [h1 fr' (fun h hm => ha h (by rw [List.flatMap_cons]; exact List.mem_append_left _ hm)), h2 fr' (fun h hm => ha h (by rw [List.flatMap_cons]; exact List.mem_append_right _ hm))]⟩
theorem lendA_all : ∀ (ms : List MV) {q : List MV → Option R}, lendA fr ms q = some r → ∃ x, q x = some r ∧ ∀ fr', (∀ h ∈ ms.flatMap refsM, AgH fr fr' h) → ∀ (R : Type) (k' : List MV → Option R), lendA fr' ms k' = k' x
  | [], q, h => ⟨[], h, fun _ _ _ _ => rfl⟩
  | m :: ms, q, h => by
    by_cases ha : m.isAg = true
    · obtain ⟨cs, e⟩ := ag_of ha
      subst e
      simp only [lendA] at h
      obtain ⟨x, h, h1⟩ := lendL_all cs h
      obtain ⟨xs, h, h2⟩ := lendA_all ms h
      exact ⟨_, h, fun fr' ha R k' => by simp only [lendA]; rw [h1 fr' (fun h hm => ha h (by rw [List.flatMap_cons]; exact List.mem_append_left _ hm)), h2 fr' (fun h hm => ha h (by rw [List.flatMap_cons]; exact List.mem_append_right _ hm))]⟩
    · have ha : m.isAg = false := by simpa using ha
      have hr : refsM m = refs1 m := by cases m <;> first | rfl | (cases ha; done)
      rw [lendA_ne ha] at h
      obtain ⟨x, h, h1⟩ := lend1_all h
      obtain ⟨xs, h, h2⟩ := lendA_all ms h
      exact ⟨_, h, fun fr' hag R k' => by rw [lendA_ne ha, h1 fr' (fun h hm => hag h (by rw [List.flatMap_cons, hr]; exact List.mem_append_left _ hm)), h2 fr' (fun h hm => hag h (by rw [List.flatMap_cons]; exact List.mem_append_right _ hm))]⟩
theorem mem_dedup : ∀ {l : List H} {h : H}, h ∈ l → h ∈ dedup l
  | a :: l, h, hm => by
    unfold dedup
    by_cases e : h = a
    · subst e; exact List.mem_cons_self
    · refine List.mem_cons_of_mem _ (List.mem_filter.2 ⟨mem_dedup ((List.mem_cons.1 hm).resolve_left e), by simpa using e⟩)
theorem flatMap_cong {A B : Type} {f g : A → List B} : ∀ {l : List A}, (∀ a ∈ l, f a = g a) → l.flatMap f = l.flatMap g
  | [], _ => rfl
  | a :: l, h => by rw [List.flatMap_cons, List.flatMap_cons, h a (by simp), flatMap_cong fun b hb => h b (List.mem_cons_of_mem _ hb)]
theorem closeH_congr {fr fr' : Fr} {L : List H} (h : ∀ x ∈ L, objHandles (fr'.obj x) = objHandles (fr.obj x)) : closeH fr' L = closeH fr L := by
  unfold closeH
  rw [flatMap_cong h]
theorem giveX_loc {F W : H → Prop} {f : FuncId} (ms : List MV) {k : List MV → Fr → Option R} (hF : ∀ h ∈ ms.flatMap refsM, F h ∧ W h) (h : giveX E f ms fr k = some r) : ∃ x fr1, k x fr1 = some r ∧ LocC F W (fun R fr k => giveX E f ms fr k) fr x fr1 ∧ (∀ h, objHandles (fr1.obj h) = objHandles (fr.obj h) ∧ refsO (fr1.obj h) = refsO (fr.obj h)) ∧ x.flatMap handles = ms.flatMap handles ∧ ioRefs E f x = ioRefs E f ms := by
  by_cases hio : E.io f = true
  · unfold giveX at h
    rw [if_pos hio] at h
    refine ⟨ms, fr, h, ?_, fun _ => ⟨rfl, rfl⟩, rfl, rfl⟩
    exact LocC.keep fun R fr' k _ => by unfold giveX; rw [if_pos hio]
  · unfold giveX at h
    rw [if_neg hio] at h
    obtain ⟨x, fr1, h, l, _, p, q⟩ := giveA_loc ms hF h
    refine ⟨x, fr1, h, ?_, p, q, by unfold ioRefs; rw [if_neg hio, if_neg hio]⟩
    have e : (fun (R : Type) (fr : Fr) (k : List MV → Fr → Option R) => giveX E f ms fr k) = fun R fr k => giveA (E.mv f) ms fr k := by
      funext R fr k; unfold giveX; rw [if_neg hio]
    rw [e]; exact l
theorem evCallM_loc {f : FuncId} {args : List MV} {k : MV → Fr → Option R} (h : evCallM E run f args fr o k = some r) :
    ∃ m fr1, k m fr1 = some r ∧ LocC (fpCall E f args fr o).tch (fpCall E f args fr o).wrt (fun R fr k => evCallM E run f args fr o k) fr m fr1 ∧ ∀ fr', (∀ h, (fpCall E f args fr o).tch h → AgH fr fr' h) → fpCall E f args fr' o = fpCall E f args fr o := by
  by_cases hl : (!(E.mv f || E.io f) && (scalarT E o.type && (args.flatMap handles).isEmpty)) = true
  · have hfp : ∀ fr', fpCall E f args fr' o = ⟨args.flatMap refsM, [], none⟩ := fun fr' => by unfold fpCall; rw [if_pos hl]
    unfold evCallM at h
    simp only at h
    rw [if_pos hl] at h
    obtain ⟨as, h, h1⟩ := lendA_all _ h
    obtain ⟨res, hres, h⟩ := bnd_some h
    obtain ⟨ms, b, h, h2⟩ := resS_all h
    split at h
    · rename_i hs
      refine ⟨_, _, h, LocC.keep fun R fr' k ha => ?_, fun fr' _ => by rw [hfp, hfp]⟩
      unfold evCallM
      simp only
      rw [if_pos hl, h1 fr' fun h hm => ha h (.inl (by rw [hfp]; exact hm))]
      simp only [hres, bnd, Option.bind_some, h2, hs, if_true]
    · simp at h
  · have hfp : ∀ fr', fpCall E f args fr' o = ⟨[], args.flatMap refsM ++ (closeH fr' (args.flatMap handles ++ ioRefs E f args) ++ (closeH fr' (args.flatMap handles ++ ioRefs E f args)).flatMap fun h => refsO (fr'.obj h)), some (o.dst.getD 0)⟩ := fun fr' => by unfold fpCall; rw [if_neg hl]
    have hwr : ∀ h, (fpCall E f args fr o).wrt h → (fpCall E f args fr o).tch h := fun h hh => hh.elim (fun x => .inr (.inl x)) fun x => .inr (.inr x)
    have hin : ∀ h, h ∈ args.flatMap refsM ++ (closeH fr (args.flatMap handles ++ ioRefs E f args) ++ (closeH fr (args.flatMap handles ++ ioRefs E f args)).flatMap fun h => refsO (fr.obj h)) → (fpCall E f args fr o).tch h ∧ (fpCall E f args fr o).wrt h := fun h hh => by
      have : (fpCall E f args fr o).wrt h := .inl (by rw [hfp]; exact hh)
      exact ⟨hwr h this, this⟩
    have hfam : ∀ j, (fpCall E f args fr o).tch (.loc (o.dst.getD 0) j) ∧ (fpCall E f args fr o).wrt (.loc (o.dst.getD 0) j) := fun j => by
      have : (fpCall E f args fr o).wrt (.loc (o.dst.getD 0) j) := .inr ⟨_, j, by rw [hfp], rfl⟩
      exact ⟨hwr _ this, this⟩
    have hfpc : ∀ fr', (∀ h, (fpCall E f args fr o).tch h → AgH fr fr' h) → fpCall E f args fr' o = fpCall E f args fr o := fun fr' ha => by
      have hc : closeH fr' (args.flatMap handles ++ ioRefs E f args) = closeH fr (args.flatMap handles ++ ioRefs E f args) := closeH_congr fun x hx => by
        have hx' : x ∈ closeH fr (args.flatMap handles ++ ioRefs E f args) := mem_dedup (List.mem_append_left _ hx)
        rw [(ha x (hin x (List.mem_append_right _ (List.mem_append_left _ hx'))).1).obj]
      rw [hfp, hfp, hc, flatMap_cong (g := fun h => refsO (fr.obj h)) fun x hx => by
        rw [(ha x (hin x (List.mem_append_right _ (List.mem_append_left _ hx))).1).obj]]
    have h0 := h
    unfold evCallM at h
    simp only at h
    rw [if_neg hl] at h
    obtain ⟨as, fr1, h, l1, p1, q1, q2⟩ := giveX_loc (E := E) (f := f) args (fun h hm => hin h (List.mem_append_left _ hm)) h
    have hcl : closeH fr1 (as.flatMap handles ++ ioRefs E f as) = closeH fr (args.flatMap handles ++ ioRefs E f args) := by
      rw [q1, q2]; exact closeH_congr fun x _ => (p1 x).1
    rw [hcl] at h
    generalize hhs : closeH fr (args.flatMap handles ++ ioRefs E f args) = hs at h hcl
    have hH : ∀ h ∈ hs, (fpCall E f args fr o).tch h ∧ (fpCall E f args fr o).wrt h := fun h hm => hin h (List.mem_append_right _ (List.mem_append_left _ (by rw [hhs]; exact hm)))
    obtain ⟨os, fr2, h, l2⟩ := giveO_loc hs (fun h hm => (hH h hm).1) (fun h hm => by
      obtain ⟨a, ha, hm⟩ := List.mem_flatMap.1 hm
      rw [(p1 a).2] at hm
      exact hin h (List.mem_append_right _ (List.mem_append_right _ (List.mem_flatMap.2 ⟨a, by rw [hhs]; exact ha, hm⟩)))) h
    obtain ⟨res, hres, h⟩ := bnd_some h
    obtain ⟨ns, h, hlike⟩ := likeO_all _ _ _ h
    have l3 := fgt_loc (F := (fpCall E f args fr o).tch) (W := (fpCall E f args fr o).wrt) (ns := ns) hH fr2
    have hB : ∀ t j, (fpCall E f args fr o).tch (nmB (o.dst.getD 0) t j) ∧ (fpCall E f args fr o).wrt (nmB (o.dst.getD 0) t j) := fun t j => hfam _
    have hR : ∀ t j, (fpCall E f args fr o).tch (nmR (o.dst.getD 0) t j) ∧ (fpCall E f args fr o).wrt (nmR (o.dst.getD 0) t j) := fun t j => hfam _
    -- what the whole is, at a frame that agrees
    have hcl' : ∀ (fr1' : Fr), (∀ h, (fpCall E f args fr o).tch h → AgH fr1 fr1' h) → closeH fr1' (as.flatMap handles ++ ioRefs E f as) = hs := fun fr1' ha => by
      rw [← hcl]
      refine closeH_congr fun x hx => ?_
      have hx' : x ∈ hs := by rw [← hcl]; exact mem_dedup (List.mem_append_left _ hx)
      rw [(ha x (hH x hx').1).obj]
    have fin : ∀ {m : MV} {frE : Fr} (c : (R : Type) → Fr → (MV → Fr → Option R) → Option R), LocC (fpCall E f args fr o).tch (fpCall E f args fr o).wrt c { fr2 with ob := fgtOb hs ns fr2.ob } m frE →
        (∀ (R : Type) (k : MV → Fr → Option R) (frx : Fr), (match boxedT E o.type with
            | .ptr e => bnd (newP hs.length res.1) fun _ => bnd (gCellsN (tshape E.P e).length (nthO res.2 hs.length)) fun cs => opn (E.keep f) (tshape E.P e) cs 0 fun cs =>
                backO (nmB (o.dst.getD 0)) hs ns 0 frx fun fr => layC (nmR (o.dst.getD 0) 1) cs 0 fr fun cs fr => fr.lay (.loc (o.dst.getD 0) 0) (.cells cs) fun fr => k (.ptr (.loc (o.dst.getD 0) 0) 0) fr
            | .map => bnd (newM hs.length res.1) fun _ => bnd (gMap (nthO res.2 hs.length)) fun es =>
                backO (nmB (o.dst.getD 0)) hs ns 0 frx fun fr => fr.lay (.loc (o.dst.getD 0) 0) (.map es) fun fr => k (.mapr (.loc (o.dst.getD 0) 0)) fr
            | .no => resS E (E.keep f) o.type res.1 fun ms b =>
                backO (nmB (o.dst.getD 0)) hs ns 0 frx fun fr => layA (nmR (o.dst.getD 0)) ms 0 fr fun ms fr => k (unres ms b) fr) = c R frx k) →
        LocC (fpCall E f args fr o).tch (fpCall E f args fr o).wrt (fun R fr k => evCallM E run f args fr o k) fr m frE := by
      intro m frE c lc hc
      have whole := l1.bind (c2 := fun as R fr k => giveO hs fr fun os fr => (fun (_ : Unit) (fr : Fr) => c R fr k) () { fr with ob := fgtOb hs ns fr.ob })
        (l2.bind (c2 := fun os R fr k => (fun (_ : Unit) (fr : Fr) => c R fr k) () { fr with ob := fgtOb hs ns fr.ob }) (l3.bind (c2 := fun _ R fr k => c R fr k) lc))
      have key : ∀ (fr' fr1' fr2' : Fr), (∀ (R : Type) k, giveX E f args fr' k = (k as fr1' : Option R)) → closeH fr1' (as.flatMap handles ++ ioRefs E f as) = hs → (∀ (R : Type) k, giveO hs fr1' k = (k os fr2' : Option R)) → ∀ (R : Type) (k : MV → Fr → Option R), evCallM E run f args fr' o k = c R { fr2' with ob := fgtOb hs ns fr2'.ob } k := by
        intro fr' fr1' fr2' e1 e2 e3 R k
        unfold evCallM
        simp only
        rw [if_neg hl, e1]
        simp only [e2]
        rw [e3]
        simp only [hres, bnd, Option.bind_some]
        rw [hlike]
        exact hc R k _
      refine ⟨fun R k => ?_, whole.2.1, fun fr' ha => ?_⟩
      · show evCallM E run f args fr o k = _
        rw [key fr fr1 fr2 l1.1 hcl l2.1, lc.1]
      · obtain ⟨fr1', e1, s1, a1, w1⟩ := l1.2.2 fr' ha
        obtain ⟨fr2', e2, s2, a2, w2⟩ := l2.2.2 fr1' a1
        obtain ⟨fr3', e3, s3, a3, w3⟩ := (l3.bind (c2 := fun _ R fr k => c R fr k) lc).2.2 fr2' a2
        refine ⟨fr3', fun R k => ?_, (s3.trans s2).trans s1, a3, fun h hw => ((w1 h hw).trans (w2 h hw)).trans (w3 h hw)⟩
        show evCallM E run f args fr' o k = _
        rw [key fr' fr1' fr2' e1 (hcl' fr1' a1) e2]
        exact e3 R k
    cases hbt : boxedT E o.type with
    | ptr e =>
      simp only [hbt] at h
      obtain ⟨u, hu, h⟩ := bnd_some h
      obtain ⟨cs, hcs, h⟩ := bnd_some h
      obtain ⟨cs', h, hop⟩ := opn_all _ _ _ _ h
      obtain ⟨fr4, h, l4⟩ := backO_loc hB hs ns (fun h hm => hH h hm) h
      obtain ⟨cs2, fr5, h, l5⟩ := layC_loc (hR 1) cs' h
      obtain ⟨h, l6⟩ := lay_loc (hfam 0).1 (hfam 0).2 h
      refine ⟨_, _, h, fin (fun R fr k => backO (nmB (o.dst.getD 0)) hs ns 0 fr fun fr => layC (nmR (o.dst.getD 0) 1) cs' 0 fr fun cs fr => fr.lay (.loc (o.dst.getD 0) 0) (.cells cs) fun fr => k (.ptr (.loc (o.dst.getD 0) 0) 0) fr) ?_ (fun R k frx => ?_), hfpc⟩
      · exact l4.bind (c2 := fun _ R fr k => layC (nmR (o.dst.getD 0) 1) cs' 0 fr fun cs fr => fr.lay (.loc (o.dst.getD 0) 0) (.cells cs) fun fr => k (MV.ptr (.loc (o.dst.getD 0) 0) 0) fr)
          (l5.bind (c2 := fun cs R fr k => fr.lay (.loc (o.dst.getD 0) 0) (.cells cs) fun fr => k (MV.ptr (.loc (o.dst.getD 0) 0) 0) fr) (l6.map fun _ => MV.ptr (.loc (o.dst.getD 0) 0) 0))
      · simp only [hbt, hu, hcs, bnd, Option.bind_some]; rw [hop]
    | map =>
      simp only [hbt] at h
      obtain ⟨u, hu, h⟩ := bnd_some h
      obtain ⟨es, hes, h⟩ := bnd_some h
      obtain ⟨fr4, h, l4⟩ := backO_loc hB hs ns (fun h hm => hH h hm) h
      obtain ⟨h, l6⟩ := lay_loc (hfam 0).1 (hfam 0).2 h
      refine ⟨_, _, h, fin (fun R fr k => backO (nmB (o.dst.getD 0)) hs ns 0 fr fun fr => fr.lay (.loc (o.dst.getD 0) 0) (.map es) fun fr => k (.mapr (.loc (o.dst.getD 0) 0)) fr) ?_ (fun R k frx => ?_), hfpc⟩
      · exact l4.bind (c2 := fun _ R fr k => fr.lay (.loc (o.dst.getD 0) 0) (.map es) fun fr => k (MV.mapr (.loc (o.dst.getD 0) 0)) fr) (l6.map fun _ => MV.mapr (.loc (o.dst.getD 0) 0))
      · simp only [hbt, hu, hes, bnd, Option.bind_some]
    | no =>
      simp only [hbt] at h
      obtain ⟨ms, b, h, hrs⟩ := resS_all h
      obtain ⟨fr4, h, l4⟩ := backO_loc hB hs ns (fun h hm => hH h hm) h
      obtain ⟨ms2, fr5, h, l5⟩ := layA_loc hR ms h
      refine ⟨_, _, h, fin (fun R fr k => backO (nmB (o.dst.getD 0)) hs ns 0 fr fun fr => layA (nmR (o.dst.getD 0)) ms 0 fr fun ms fr => k (unres ms b) fr) ?_ (fun R k frx => ?_), hfpc⟩
      · exact l4.bind (c2 := fun _ R fr k => layA (nmR (o.dst.getD 0)) ms 0 fr fun ms fr => k (unres ms b) fr) (l5.map fun ms => unres ms b)
      · simp only [hbt]; rw [hrs]
end
end Kw
namespace Kw
open Go
section
variable {E : Env} {run : Run} {o : Oper} {fr : Fr} {R : Type} {r : R} {k : Fr → Option R}
theorem parts_refs : ∀ (l : List (Nat × Operand)) (ps : List (Nat × List MV)), partsE fr l = some ps → ∀ h ∈ ps.flatMap (fun p => p.2.flatMap refs1), h ∈ l.flatMap (fun p => refsM (opnd fr p.2))
  | [], ps, h0, h, hm => by cases h0; simp at hm
  | (i, x) :: l, ps, h0, h, hm => by
    unfold partsE at h0
    rw [List.flatMap_cons]
    split at h0
    · rename_i cs ps' ex e
      cases h0
      rw [List.flatMap_cons] at hm
      rcases List.mem_append.1 hm with y | y
      · refine List.mem_append_left _ ?_
        simp only [ex, refsM]; exact y
      · exact List.mem_append_right _ (parts_refs l _ e h y)
    · rename_i ps' e hna
      split at h0
      · rename_i hone
        cases h0
        rw [List.flatMap_cons] at hm
        rcases List.mem_append.1 hm with y | y
        · refine List.mem_append_left _ ?_
          have : refsM (opnd fr x) = refs1 (opnd fr x) := by
            cases hx : opnd fr x <;> first | rfl | exact absurd hx (hna _)
          rw [this]
          simpa using y
        · exact List.mem_append_right _ (parts_refs l _ e h y)
      · cases h0
    · cases h0
theorem freezeP_loc {F W : H → Prop} : ∀ (ps : List (Nat × List MV)) {fr : Fr} {k : List (Nat × List MV) → Fr → Option R}, (∀ h ∈ ps.flatMap (fun p => p.2.flatMap refs1), F h ∧ W h) → freezeP ps fr k = some r → ∃ x fr1, k x fr1 = some r ∧ LocC F W (fun R fr k => freezeP ps fr k) fr x fr1
  | [], fr, k, _, h => ⟨_, _, h, LocC.pure _⟩
  | (i, ms) :: ps, fr, k, hF, h => by
    simp only [freezeP] at h
    obtain ⟨x, fr1, h, l1⟩ := freezeL_loc ms (fun h hm => hF h (by rw [List.flatMap_cons]; exact List.mem_append_left _ hm)) h
    obtain ⟨xs, fr2, h, l2⟩ := freezeP_loc ps (fun h hm => hF h (by rw [List.flatMap_cons]; exact List.mem_append_right _ hm)) h
    exact ⟨_, _, h, l1.bind (c2 := fun x R fr k => freezeP ps fr fun ps fr => k ((i, x) :: ps) fr) (l2.map (fun ps => (i, x) :: ps))⟩
theorem evAppend_loc {F W : H → Prop} {d : Nat} {s : MV} {e : TypeId} {xs : List Row} {k : MV → Fr → Option R} (hF : ∀ h ∈ hOf s, F h ∧ W h) (hd : F (.loc d 0) ∧ W (.loc d 0)) (h : evAppend E d s e xs fr k = some r) : ∃ x fr1, k x fr1 = some r ∧ LocC F W (fun R fr k => evAppend E d s e xs fr k) fr x fr1 := by
  unfold evAppend at h
  split at h
  case isFalse => simp at h
  rename_i hk
  split at h
  · rename_i hd n
    obtain ⟨f1, f2⟩ := hF hd (by simp [hOf])
    split at h
    · simp at h
    rename_i hni
    split at h
    · rename_i rows er
      rcases br_some h with ⟨ec, h⟩ | ⟨_, h⟩
      · refine ⟨_, _, h, LocC.setObj f1 f2 fun R fr' k ⟨e', _⟩ => ?_⟩
        unfold evAppend
        simp only [hk, if_true, hni, e', er, ec, br, cond_true]
        rfl
      · simp at h
    · simp at h
  · rcases br_some h with ⟨ec, h⟩ | ⟨_, h⟩
    · obtain ⟨h, l⟩ := lay_loc hd.1 hd.2 h
      refine ⟨_, _, h, ?_⟩
      have l2 := l.map fun _ => MV.ref (.loc d 0) (nrows xs)
      have e : (fun (R : Type) (fr : Fr) (k : MV → Fr → Option R) => evAppend E d .nils e xs fr k) = fun R fr k => fr.lay (.loc d 0) (.rows xs) fun fr => k (MV.ref (.loc d 0) (nrows xs)) fr := by
        funext R fr k
        unfold evAppend
        simp only [hk, if_true, ec, br, cond_true]
      rw [e]; exact l2
    · simp at h
  · simp at h
theorem evStore_loc {F W : H → Prop} {t : TypeId} {a v : MV} {k : Fr → Option R} (hF : ∀ h ∈ hOf a ++ refsM v, F h ∧ W h) (h : evStore E t a v fr k = some r) : ∃ fr1, k fr1 = some r ∧ LocC F W (fun R fr k => evStore E t a v fr fun fr => k () fr) fr () fr1 := by
  unfold evStore at h
  split at h
  case isFalse => simp at h
  rename_i hk
  split at h
  · rename_i hd off
    obtain ⟨f1, f2⟩ := hF hd (by simp [hOf])
    split at h
    · rename_i cs ec
      split at h
      · rename_i hle
        refine ⟨_, h, LocC.setObj f1 f2 fun R fr' k ⟨e', _⟩ => ?_⟩
        unfold evStore
        simp only [hk, if_true, e', ec, hle]
      · simp at h
    · simp at h
  · rename_i hd n i c
    obtain ⟨f1, f2⟩ := hF hd (by simp [hOf])
    have hR : ∀ h ∈ (cellsOf v).flatMap refs1, F h ∧ W h := fun h hm => hF h (by
      refine List.mem_append_right _ ?_
      by_cases ha : v.isAg = true
      · obtain ⟨cs, e⟩ := ag_of ha
        subst e; exact hm
      · have ha : v.isAg = false := by simpa using ha
        have e1 : cellsOf v = [v] := by cases v <;> first | rfl | (cases ha; done)
        have e2 : refsM v = refs1 v := by cases v <;> first | rfl | (cases ha; done)
        rw [e1] at hm; rw [e2]; simpa using hm)
    obtain ⟨ms, fr1, h, l1⟩ := freezeL_loc _ hR h
    split at h
    · rename_i rows er
      rcases br_some h with ⟨en, h⟩ | ⟨_, h⟩
      case inr => simp at h
      obtain ⟨row, hrow, h⟩ := bnd_some h
      rcases br_some h with ⟨ec, h⟩ | ⟨_, h⟩
      case inr => simp at h
      refine ⟨_, h, ?_⟩
      have l2 : LocC F W (fun R fr (k : Unit → Fr → Option R) => (match fr.obj hd with
          | .rows rows => br (iEq n (nrows rows)) (bnd (rowAt rows i) fun row => br (iLe (c + ms.length : Nat) (rowLen row)) (k () (fr.setObj hd (.rows (setR rows i (setRow row c ms))))) none) none
          | _ => none)) fr1 () (fr1.setObj hd (.rows (setR rows i (setRow row c ms)))) :=
        LocC.setObj f1 f2 fun R fr' k ⟨e', _⟩ => by simp only [e', er, en, br, cond_true, hrow, bnd, Option.bind_some, ec]
      have l3 := l1.bind (c2 := fun ms R fr (k : Unit → Fr → Option R) => (match fr.obj hd with
          | .rows rows => br (iEq n (nrows rows)) (bnd (rowAt rows i) fun row => br (iLe (c + ms.length : Nat) (rowLen row)) (k () (fr.setObj hd (.rows (setR rows i (setRow row c ms))))) none) none
          | _ => none)) l2
      have e : (fun (R : Type) (fr : Fr) (k : Unit → Fr → Option R) => evStore E t (.ptrE hd n i c) v fr fun fr => k () fr) = fun R fr k => freezeL (cellsOf v) fr fun ms fr => (match fr.obj hd with
          | .rows rows => br (iEq n (nrows rows)) (bnd (rowAt rows i) fun row => br (iLe (c + ms.length : Nat) (rowLen row)) (k () (fr.setObj hd (.rows (setR rows i (setRow row c ms))))) none) none
          | _ => none) := by
        funext R fr k
        unfold evStore
        rw [if_pos hk]
        rfl
      rw [e]; exact l3
    · simp at h
  · simp at h
theorem loc_op (hok : anyOk o fr = true) (h : evOp E run o fr k = some r) : ∃ fr1, k fr1 = some r ∧ LocOp E run o fr fr1 := by
  have h0 := h
  unfold evOp at h
  simp only at h
  split at h
  · -- move
    rename_i x ho
    exact ⟨_, h, locOp_pure (fun fr' C R k' => by
      have e := C.op x (by rw [ho]; simp [Op.operands])
      unfold evOp; simp only [ho, e]) fun fr' C => by unfold fp; simp only [ho]⟩
  · rename_i x ho
    exact ⟨_, h, locOp_pure (fun fr' C R k' => by
      have e := C.op x (by rw [ho]; simp [Op.operands])
      unfold evOp; simp only [ho, e]) fun fr' C => by unfold fp; simp only [ho]⟩
  · -- pick
    rename_i c x y ho
    obtain ⟨b, hb, h⟩ := bnd_some h
    have hb' := gBool_some hb
    refine ⟨fr.finish o.dst (if b then opnd fr x else opnd fr y), ?_, locOp_pure (fun fr' C R k' => ?_) fun fr' C => by unfold fp; simp only [ho]⟩
    · cases b <;> exact h
    · have e1 := C.op c (by rw [ho]; simp [Op.operands])
      have e2 := C.op x (by rw [ho]; simp [Op.operands])
      have e3 := C.op y (by rw [ho]; simp [Op.operands])
      unfold evOp; simp only [ho, e1, e2, e3, hb, bnd, Option.bind_some]
      cases b <;> rfl
  · -- alloc
    rename_i t ho
    split at h
    case isFalse => simp at h
    rename_i hk
    have hF : (fp E o fr).wrt (.loc (o.dst.getD 0) 0) := .inr ⟨o.dst.getD 0, 0, by unfold fp; simp only [ho], rfl⟩
    have hT : (fp E o fr).tch (.loc (o.dst.getD 0) 0) := hF.elim (fun x => .inr (.inl x)) fun x => .inr (.inr x)
    obtain ⟨h, l⟩ := lay_loc hT hF h
    exact ⟨_, h, locOp_of (l.map fun _ => MV.ptr (.loc (o.dst.getD 0) 0) 0) (fun fr' C R k' => by unfold evOp; simp only [ho, hk, if_true]) fun fr' C => by unfold fp; simp only [ho]⟩
  · -- box
    rename_i t x ho
    have hF : (fp E o fr).wrt (.loc (o.dst.getD 0) 0) := .inr ⟨o.dst.getD 0, 0, by unfold fp; simp only [ho], rfl⟩
    have hT : (fp E o fr).tch (.loc (o.dst.getD 0) 0) := hF.elim (fun x => .inr (.inl x)) fun x => .inr (.inr x)
    have hf : ∀ fr', Cond E o fr fr' → fp E o fr' = fp E o fr := fun fr' C => by unfold fp; simp only [ho]
    split at h
    · rename_i cs ex
      obtain ⟨h, l⟩ := lay_loc hT hF h
      exact ⟨_, h, locOp_of (l.map fun _ => MV.ptr (.loc (o.dst.getD 0) 0) 0) (fun fr' C R k' => by
        have e := C.op x (by rw [ho]; simp [Op.operands])
        unfold evOp; simp only [ho, e, ex]) hf⟩
    · rename_i hna
      split at h
      · rename_i hone
        obtain ⟨h, l⟩ := lay_loc hT hF h
        refine ⟨_, h, locOp_of (l.map fun _ => MV.ptr (.loc (o.dst.getD 0) 0) 0) (fun fr' C R k' => ?_) hf⟩
        have e := C.op x (by rw [ho]; simp [Op.operands])
        unfold evOp; simp only [ho, e]
        rw [if_pos hone]
      · simp at h
  · -- load
    rename_i t x ho
    obtain ⟨m, h, hl⟩ := evLoad_all h
    refine ⟨_, h, locOp_pure (fun fr' C R k' => ?_) fun fr' C => ?_⟩
    · have e := C.op x (by rw [ho]; simp [Op.operands])
      unfold evOp; simp only [ho, e]
      exact hl fr' (fun h hh => C.ag h (.inl (by unfold fp; simp only [ho]; exact hh))) _ _
    · have e := C.op x (by rw [ho]; simp [Op.operands])
      unfold fp; simp only [ho, e]
  · -- store
    rename_i t x y ho
    have hex : ∀ fr', Cond E o fr fr' → opnd fr' x = opnd fr x ∧ opnd fr' y = opnd fr y := fun fr' C => ⟨C.op x (by rw [ho]; simp [Op.operands]), C.op y (by rw [ho]; simp [Op.operands])⟩
    have hw : ∀ h ∈ hOf (opnd fr x) ++ refsM (opnd fr y), (fp E o fr).tch h ∧ (fp E o fr).wrt h := fun h hm => by
      have : h ∈ (fp E o fr).wr := by unfold fp; simp only [ho]; exact hm
      exact ⟨.inr (.inl this), .inl this⟩
    obtain ⟨fr1, h, l⟩ := evStore_loc hw h
    exact ⟨_, h, locOp_of (l.map fun _ => MV.undef) (fun fr' C R k' => by unfold evOp; simp only [ho, (hex fr' C).1, (hex fr' C).2]) fun fr' C => by unfold fp; simp only [ho, (hex fr' C).1, (hex fr' C).2]⟩
  · -- nilCheck
    rename_i x ho
    obtain ⟨h, hl⟩ := live_all h
    have hf : ∀ fr', Cond E o fr fr' → fp E o fr' = fp E o fr := fun fr' C => by
      have e := C.op x (by rw [ho]; simp [Op.operands])
      unfold fp; simp only [ho, e]
    have key : ∀ m, opnd fr x = m → (∀ (R : Type) (q : MV → Option R), (match m with | .ptr h o' => q (.ptr h o') | .fn g c => q (.fn g c) | .ptrE h n i c => q (.ptrE h n i c) | .ptrS r c => q (.ptrS r c) | _ => none) = q m) → LocOp E run o fr (fr.finish o.dst m) := fun m em hq =>
      locOp_pure (fun fr' C R k' => by
        have e := C.op x (by rw [ho]; simp [Op.operands])
        unfold evOp; simp only [ho, e]
        rw [hl fr' (fun h hh => C.ag h (.inl (by unfold fp; simp only [ho]; exact hh))), em]
        exact hq R fun m => k' (fr'.finish o.dst m)) hf
    split at h
    · rename_i em; exact ⟨_, h, key _ em fun _ _ => rfl⟩
    · rename_i em; exact ⟨_, h, key _ em fun _ _ => rfl⟩
    · rename_i em; exact ⟨_, h, key _ em fun _ _ => rfl⟩
    · rename_i em; exact ⟨_, h, key _ em fun _ _ => rfl⟩
    · simp at h
  · -- binOp
    rename_i op t x y yt ho
    have hf : ∀ fr', Cond E o fr fr' → fp E o fr' = fp E o fr := fun fr' C => by unfold fp; simp only [ho]
    have hex : ∀ fr', Cond E o fr fr' → opnd fr' x = opnd fr x ∧ opnd fr' y = opnd fr y := fun fr' C => ⟨C.op x (by rw [ho]; simp [Op.operands]), C.op y (by rw [ho]; simp [Op.operands])⟩
    split at h
    · rename_i hag
      split at h
      · rename_i xs ys ex ey
        split at h
        · simp at h
        rename_i hg
        obtain ⟨b, hb, h⟩ := bnd_some h
        split at h
        · exact ⟨_, h, locOp_pure (fun fr' C R k' => by
            unfold evOp; simp only [ho, (hex fr' C).1, (hex fr' C).2, hag, if_true, ex, ey, hg, hb, bnd, Option.bind_some]; rfl) hf⟩
        · exact ⟨_, h, locOp_pure (fun fr' C R k' => by
            unfold evOp; simp only [ho, (hex fr' C).1, (hex fr' C).2, hag, if_true, ex, ey, hg, hb, bnd, Option.bind_some]; rfl) hf⟩
        · simp at h
      · simp at h
    · rename_i hag
      split at h
      · rename_i ex
        split at h
        · rename_i hi
          split at h
          · refine ⟨_, h, locOp_pure (fun fr' C R k' => ?_) hf⟩
            unfold evOp; simp only [ho, (hex fr' C).1]; rw [if_neg hag]; simp only [ex, hi, if_true]
          · refine ⟨_, h, locOp_pure (fun fr' C R k' => ?_) hf⟩
            unfold evOp; simp only [ho, (hex fr' C).1]; rw [if_neg hag]; simp only [ex, hi, if_true]
          · simp at h
        · simp at h
      · rename_i hnx
        obtain ⟨m, h, hl⟩ := evBin_all h
        refine ⟨_, h, locOp_pure (fun fr' C R k' => ?_) hf⟩
        unfold evOp; simp only [ho, (hex fr' C).1, (hex fr' C).2]
        rw [if_neg hag]
        exact hl R fun m => k' (fr'.finish o.dst m)
  · -- unOp
    rename_i op t x ho
    have hf : ∀ fr', Cond E o fr fr' → fp E o fr' = fp E o fr := fun fr' C => by unfold fp; simp only [ho]
    split at h
    · rename_i b ex
      exact ⟨_, h, locOp_pure (fun fr' C R k' => by
        have e := C.op x (by rw [ho]; simp [Op.operands])
        unfold evOp; simp only [ho, e, ex]) hf⟩
    · rename_i kd n ex
      exact ⟨_, h, locOp_pure (fun fr' C R k' => by
        have e := C.op x (by rw [ho]; simp [Op.operands])
        unfold evOp; simp only [ho, e, ex]) hf⟩
    · simp at h
  · -- convert
    rename_i src dst x ho
    have hex : ∀ fr', Cond E o fr fr' → opnd fr' x = opnd fr x := fun fr' C => C.op x (by rw [ho]; simp [Op.operands])
    have hf : ∀ fr', Cond E o fr fr' → fp E o fr' = fp E o fr := fun fr' C => by unfold fp; simp only [ho, hex fr' C]
    split at h
    · rename_i e1 e2 ex
      exact ⟨_, h, locOp_pure (fun fr' C R k' => by unfold evOp; simp only [ho, hex fr' C, e1, e2, ex]) hf⟩
    · rename_i e1 e2 ex
      exact ⟨_, h, locOp_pure (fun fr' C R k' => by unfold evOp; simp only [ho, hex fr' C, e1, e2, ex]) hf⟩
    · rename_i e1 e2 ex
      rcases br_some h with ⟨ec, h⟩ | ⟨_, h⟩
      · exact ⟨_, h, locOp_pure (fun fr' C R k' => by unfold evOp; simp only [ho, hex fr' C, e1, e2, ex, ec, br, cond_true]) hf⟩
      · simp at h
    · rename_i hn1 hn2 hn3 e1 e2
      split at h
      · rename_i hby
        obtain ⟨rs, h, hr⟩ := rows_all h
        obtain ⟨s, hs, h⟩ := bnd_some h
        refine ⟨_, h, locOp_pure (fun fr' C R k' => ?_) hf⟩
        have hr' := hr fr' (fun h hh => C.ag h (.inl (by unfold fp; simp only [ho]; exact hh)))
        unfold evOp; simp only [ho, hex fr' C, e1, e2]
        split
        · exfalso; simp_all
        · exfalso; simp_all
        · exfalso; simp_all
        · simp_all only
          cases hn2
          simp only [hby, if_true, bnd, Option.bind_some]
        · exfalso; simp_all
      · simp at h
    · simp at h
  · -- makeFunc
    rename_i f first caps ho
    have hf : ∀ fr', Cond E o fr fr' → fp E o fr' = fp E o fr := fun fr' C => by unfold fp; simp only [ho]
    split at h
    · rename_i gf
      split at h
      · rename_i h0
        refine ⟨_, h, locOp_pure (fun fr' C R k' => ?_) hf⟩
        have e : caps.toList.map (opnd fr') = caps.toList.map (opnd fr) := List.map_congr_left fun x hx => C.op x (by rw [ho]; simp [Op.operands]; right; simpa using hx)
        unfold evOp; simp only [ho, h0, if_true, e]
      · simp at h
    · simp at h
  · -- makeMap
    rename_i t ho
    unfold anyOk at hok; simp only [ho] at hok; simp at hok
  · rename_i t l c ho
    unfold anyOk at hok; simp only [ho] at hok; simp at hok
  · -- buildSlice
    rename_i t n parts ho
    split at h
    · rename_i e he
      split at h
      · rename_i ps hp
        have hF : (fp E o fr).wrt (.loc (o.dst.getD 0) 0) := .inr ⟨o.dst.getD 0, 0, by unfold fp; simp only [ho], rfl⟩
        have hT : (fp E o fr).tch (.loc (o.dst.getD 0) 0) := hF.elim (fun x => .inr (.inl x)) fun x => .inr (.inr x)
        have hR : ∀ h ∈ ps.flatMap (fun p => p.2.flatMap refs1), (fp E o fr).tch h ∧ (fp E o fr).wrt h := fun h hm => by
          have : h ∈ (fp E o fr).wr := by unfold fp; simp only [ho]; exact parts_refs _ _ hp h hm
          exact ⟨.inr (.inl this), .inl this⟩
        obtain ⟨ps', fr1, h, l1⟩ := freezeP_loc ps hR h
        split at h
        · rename_i out ht
          split at h
          · rename_i hc
            obtain ⟨h, l2⟩ := lay_loc hT hF h
            have hex : ∀ fr', Cond E o fr fr' → (∀ p ∈ parts.toList, opnd fr' p.2 = opnd fr p.2) := fun fr' C p hp => C.op p.2 (by rw [ho]; simp only [Op.operands]; exact List.mem_map_of_mem (f := (·.2)) hp)
            refine ⟨_, h, locOp_of (c := fun R fr k => freezeP ps fr fun ps fr => (match fillE (fun i => some (i * tsize E.P e, tsize E.P e)) (zeroCs E.P e n) ps with
              | some out => if okT E.P e && (Nat.ble (n * tsize E.P e) 16777216 && out.all MV.svOne) then
                  fr.lay (.loc (o.dst.getD 0) 0) (.rows (chop (tsize E.P e) n out)) fun fr => k (MV.ref (.loc (o.dst.getD 0) 0) (nrows (chop (tsize E.P e) n out))) fr else none
              | none => none)) ?_ (fun fr' C R k' => ?_) fun fr' C => ?_⟩
            · refine l1.bind (c2 := fun ps R fr k => (match fillE (fun i => some (i * tsize E.P e, tsize E.P e)) (zeroCs E.P e n) ps with
                | some out => if okT E.P e && (Nat.ble (n * tsize E.P e) 16777216 && out.all MV.svOne) then
                    fr.lay (.loc (o.dst.getD 0) 0) (.rows (chop (tsize E.P e) n out)) fun fr => k (MV.ref (.loc (o.dst.getD 0) 0) (nrows (chop (tsize E.P e) n out))) fr else none
                | none => none)) ?_
              simp only [ht, hc, if_true]
              exact l2.map (fun _ => MV.ref (.loc (o.dst.getD 0) 0) (nrows (chop (tsize E.P e) n out)))
            · unfold evOp; simp only [ho, he, parts_cond _ (hex fr' C), hp]; rfl
            · unfold fp; simp only [ho]
              congr 1
              exact flatMap_cong fun p hp => by rw [hex fr' C p hp]
          · simp at h
        · simp at h
      · simp at h
    · simp at h
  · -- build
    rename_i t parts ho
    have hf : ∀ fr', Cond E o fr fr' → fp E o fr' = fp E o fr := fun fr' C => by unfold fp; simp only [ho]
    split at h
    · rename_i fs hu
      split at h
      · rename_i ps hp
        split at h
        · rename_i hz
          split at h
          · rename_i out ht
            refine ⟨_, h, locOp_pure (fun fr' C R k' => ?_) hf⟩
            have e : partsE fr' parts.toList = partsE fr parts.toList := parts_cond _ fun p hp => C.op p.2 (by rw [ho]; simp only [Op.operands]; exact List.mem_map_of_mem (f := (·.2)) hp)
            unfold evOp; simp only [ho, hu, e, hp, hz, if_true, ht]
          · simp at h
        · simp at h
      · simp at h
    · simp at h
  · -- slice
    rename_i t x lo hi mx ho
    have hf : ∀ fr', Cond E o fr fr' → fp E o fr' = fp E o fr := fun fr' C => by
      have e := C.op x (by rw [ho]; simp [Op.operands])
      unfold fp; simp only [ho, e]
    have hex : ∀ fr', Cond E o fr fr' → opnd fr' x = opnd fr x ∧ (∀ d, sbound fr' lo d = sbound fr lo d) ∧ ∀ d, sbound fr' hi d = sbound fr hi d := fun fr' C => by
      refine ⟨C.op x (by rw [ho]; simp [Op.operands]), fun d => ?_, fun d => ?_⟩
      · cases lo with
        | none => rfl
        | some y => exact C.op y (by rw [ho]; simp [Op.operands])
      · cases hi with
        | none => rfl
        | some y => exact C.op y (by rw [ho]; simp [Op.operands])
    split at h
    · rename_i e1 ex
      obtain ⟨l, hl, h⟩ := bnd_some h
      obtain ⟨u, hu, h⟩ := bnd_some h
      rcases br_some h with ⟨ec, h⟩ | ⟨_, h⟩
      · exact ⟨_, h, locOp_pure (fun fr' C R k' => by
          unfold evOp; simp only [ho, (hex fr' C).1, (hex fr' C).2.1, (hex fr' C).2.2, e1, ex, hl, hu, bnd, Option.bind_some, ec, br, cond_true]) hf⟩
      · simp at h
    · rename_i e1 ex
      split at h
      · rename_i hi0
        obtain ⟨l, hl, h⟩ := bnd_some h
        obtain ⟨u, hu, h⟩ := bnd_some h
        rcases br_some h with ⟨ec, h⟩ | ⟨_, h⟩
        · exact ⟨_, h, locOp_pure (fun fr' C R k' => by
            unfold evOp; simp only [ho, (hex fr' C).1, (hex fr' C).2.1, (hex fr' C).2.2, e1, ex, hi0, if_true, hl, hu, bnd, Option.bind_some, ec, br, cond_true]) hf⟩
        · simp at h
      · simp at h
    · rename_i e1 ex
      split at h
      · rename_i hi0
        obtain ⟨rs, h, hr⟩ := rows_all h
        obtain ⟨l, hl, h⟩ := bnd_some h
        obtain ⟨u, hu, h⟩ := bnd_some h
        rcases br_some h with ⟨ec, h⟩ | ⟨_, h⟩
        · refine ⟨_, h, locOp_pure (fun fr' C R k' => ?_) hf⟩
          have hr' := hr fr' (fun h hh => C.ag h (.inl (by unfold fp; simp only [ho, ex]; exact hh)))
          unfold evOp; simp only [ho, (hex fr' C).1, (hex fr' C).2.1, (hex fr' C).2.2, e1, ex, hi0, if_true]
          rw [hr']
          simp only [hl, hu, bnd, Option.bind_some, ec, br, cond_true]
        · simp at h
      · simp at h
    · simp at h
  · -- fieldAddr
    rename_i t x f ho
    obtain ⟨p, hp, h⟩ := bnd_some h
    split at h
    · simp at h
    rename_i hz
    obtain ⟨h, hl⟩ := live_all h
    have hex : ∀ fr', Cond E o fr fr' → opnd fr' x = opnd fr x := fun fr' C => C.op x (by rw [ho]; simp [Op.operands])
    have hf : ∀ fr', Cond E o fr fr' → fp E o fr' = fp E o fr := fun fr' C => by unfold fp; simp only [ho, hex fr' C]
    have hl' := fun fr' (C : Cond E o fr fr') => hl fr' (fun h hh => C.ag h (.inl (by unfold fp; simp only [ho]; exact hh)))
    split at h
    · rename_i em
      exact ⟨_, h, locOp_pure (fun fr' C R k' => by
        unfold evOp; simp only [ho, hex fr' C, hp, bnd, Option.bind_some, hz, if_false]; rw [hl' fr' C]; simp only [em]) hf⟩
    · rename_i em
      exact ⟨_, h, locOp_pure (fun fr' C R k' => by
        unfold evOp; simp only [ho, hex fr' C, hp, bnd, Option.bind_some, hz, if_false]; rw [hl' fr' C]; simp only [em]) hf⟩
    · rename_i em
      exact ⟨_, h, locOp_pure (fun fr' C R k' => by
        unfold evOp; simp only [ho, hex fr' C, hp, bnd, Option.bind_some, hz, if_false]; rw [hl' fr' C]; simp only [em]) hf⟩
    · simp at h
  · -- field
    rename_i t x f ho
    obtain ⟨p, hp, h⟩ := bnd_some h
    have hex : ∀ fr', Cond E o fr fr' → opnd fr' x = opnd fr x := fun fr' C => C.op x (by rw [ho]; simp [Op.operands])
    have hf : ∀ fr', Cond E o fr fr' → fp E o fr' = fp E o fr := fun fr' C => by unfold fp; simp only [ho]
    split at h
    · rename_i cs em
      split at h
      · rename_i hk
        exact ⟨_, h, locOp_pure (fun fr' C R k' => by
          unfold evOp; simp only [ho, hex fr' C, hp, bnd, Option.bind_some, em, hk, if_true]) hf⟩
      · simp at h
    · simp at h
  · -- indexAddr
    rename_i t x i ho
    have hex : ∀ fr', Cond E o fr fr' → opnd fr' x = opnd fr x ∧ opnd fr' i = opnd fr i := fun fr' C => ⟨C.op x (by rw [ho]; simp [Op.operands]), C.op i (by rw [ho]; simp [Op.operands])⟩
    have hf : ∀ fr', Cond E o fr fr' → fp E o fr' = fp E o fr := fun fr' C => by unfold fp; simp only [ho, (hex fr' C).1]
    split at h
    · rename_i ei em
      obtain ⟨e, he, h⟩ := bnd_some h
      obtain ⟨row, hr, h⟩ := bnd_some h
      exact ⟨_, h, locOp_pure (fun fr' C R k' => by
        unfold evOp; simp only [ho, (hex fr' C).1, (hex fr' C).2, ei, em, he, hr, bnd, Option.bind_some]) hf⟩
    · rename_i ei em
      obtain ⟨e, he, h⟩ := bnd_some h
      obtain ⟨rs, h, hl⟩ := rows_all h
      obtain ⟨row, hr, h⟩ := bnd_some h
      exact ⟨_, h, locOp_pure (fun fr' C R k' => by
        unfold evOp; simp only [ho, (hex fr' C).1, (hex fr' C).2, ei, em, he, bnd, Option.bind_some]
        rw [hl fr' (fun h hh => C.ag h (.inl (by unfold fp; simp only [ho, em]; exact hh)))]
        simp only [hr, Option.bind_some]) hf⟩
    · simp at h
  · -- index
    rename_i t x i ho
    have hex : ∀ fr', Cond E o fr fr' → opnd fr' x = opnd fr x ∧ opnd fr' i = opnd fr i := fun fr' C => ⟨C.op x (by rw [ho]; simp [Op.operands]), C.op i (by rw [ho]; simp [Op.operands])⟩
    have hf : ∀ fr', Cond E o fr fr' → fp E o fr' = fp E o fr := fun fr' C => by unfold fp; simp only [ho]
    split at h
    · rename_i hs
      split at h
      · rename_i ex ei
        obtain ⟨b, hb, h⟩ := bnd_some h
        exact ⟨_, h, locOp_pure (fun fr' C R k' => by
          unfold evOp; simp only [ho, hs, if_true, (hex fr' C).1, (hex fr' C).2, ei, ex, hb, bnd, Option.bind_some]) hf⟩
      · simp at h
    · simp at h
  · -- extract
    rename_i x j ho
    have hex : ∀ fr', Cond E o fr fr' → opnd fr' x = opnd fr x := fun fr' C => C.op x (by rw [ho]; simp [Op.operands])
    have hf : ∀ fr', Cond E o fr fr' → fp E o fr' = fp E o fr := fun fr' C => by unfold fp; simp only [ho]
    split at h
    · rename_i vs em
      split at h
      · rename_i hj
        exact ⟨_, h, locOp_pure (fun fr' C R k' => by unfold evOp; simp only [ho, hex fr' C, em, hj, if_true]) hf⟩
      · simp at h
    · simp at h
  · rename_i t x key ok ho
    unfold anyOk at hok; simp only [ho] at hok; simp at hok
  · rename_i t m key x ho
    unfold anyOk at hok; simp only [ho] at hok; simp at hok
  · -- call
    rename_i c ho
    split at h
    · rename_i hc
      have hargs : ∀ fr', Cond E o fr fr' → ∀ x ∈ c.args.toList, opnd fr' x = opnd fr x := fun fr' C x hx => C.op x (by rw [ho]; simp only [Op.operands, Call.operands, hc]; simpa using hx)
      have hf : ∀ fr', Cond E o fr fr' → fp E o fr' = fp E o fr := fun fr' C => by
        unfold fp; simp only [ho, hc]
        congr 1
        exact flatMap_cong fun x hx => by rw [hargs fr' C x hx]
      split at h
      · rename_i t x et ea
        have hx : ∀ fr', Cond E o fr fr' → opnd fr' x = opnd fr x := fun fr' C => hargs fr' C x (by rw [ea]; simp)
        split at h
        · rename_i e1 e2
          exact ⟨_, h, locOp_pure (fun fr' C R k' => by unfold evOp; simp only [ho, hc, et, ea, hx fr' C, e1, e2]) hf⟩
        · rename_i e1
          obtain ⟨rs, h, hr⟩ := rows_all h
          refine ⟨_, h, locOp_pure (fun fr' C R k' => ?_) hf⟩
          unfold evOp; simp only [ho, hc, et, ea, hx fr' C, e1]
          rw [hr fr' (fun h hh => C.ag h (.inl (by unfold fp; simp only [ho, hc, ea]; simpa using hh)))]
        · simp at h
      · simp at h
    · rename_i hc
      have hargs : ∀ fr', Cond E o fr fr' → ∀ x ∈ c.args.toList, opnd fr' x = opnd fr x := fun fr' C x hx => C.op x (by rw [ho]; simp only [Op.operands, Call.operands, hc]; simpa using hx)
      have hf : ∀ fr', Cond E o fr fr' → fp E o fr' = fp E o fr := fun fr' C => by
        unfold fp; simp only [ho, hc]
        congr 1
        exact flatMap_cong fun x hx => by rw [hargs fr' C x hx]
      split at h
      · rename_i x y ea
        split at h
        · rename_i e1 e2
          exact ⟨_, h, locOp_pure (fun fr' C R k' => by unfold evOp; simp only [ho, hc, ea, hargs fr' C x (by rw [ea]; simp), hargs fr' C y (by rw [ea]; simp), e1, e2]) hf⟩
        · simp at h
      · simp at h
    · rename_i hc
      have hargs : ∀ fr', Cond E o fr fr' → ∀ x ∈ c.args.toList, opnd fr' x = opnd fr x := fun fr' C x hx => C.op x (by rw [ho]; simp only [Op.operands, Call.operands, hc]; simpa using hx)
      have hf : ∀ fr', Cond E o fr fr' → fp E o fr' = fp E o fr := fun fr' C => by
        unfold fp; simp only [ho, hc]
        congr 1
        exact flatMap_cong fun x hx => by rw [hargs fr' C x hx]
      split at h
      · rename_i x y ea
        split at h
        · rename_i e1 e2
          exact ⟨_, h, locOp_pure (fun fr' C R k' => by unfold evOp; simp only [ho, hc, ea, hargs fr' C x (by rw [ea]; simp), hargs fr' C y (by rw [ea]; simp), e1, e2]) hf⟩
        · simp at h
      · simp at h
    · rename_i hc
      have hargs : ∀ fr', Cond E o fr fr' → ∀ x ∈ c.args.toList, opnd fr' x = opnd fr x := fun fr' C x hx => C.op x (by rw [ho]; simp only [Op.operands, Call.operands, hc]; simpa using hx)
      split at h
      · rename_i t tx x y et ea
        have hx : ∀ fr', Cond E o fr fr' → opnd fr' x = opnd fr x := fun fr' C => hargs fr' C x (by rw [ea]; simp)
        have hy : ∀ fr', Cond E o fr fr' → opnd fr' y = opnd fr y := fun fr' C => hargs fr' C y (by rw [ea]; simp)
        have hf : ∀ fr', Cond E o fr fr' → fp E o fr' = fp E o fr := fun fr' C => by
          unfold fp; simp only [ho, hc, ea, hx fr' C, hy fr' C]
        have hw : ∀ h ∈ hOf (opnd fr x), (fp E o fr).tch h ∧ (fp E o fr).wrt h := fun h hm => by
          have : h ∈ (fp E o fr).wr := by unfold fp; simp only [ho, hc, ea]; exact hm
          exact ⟨.inr (.inl this), .inl this⟩
        have hd : (fp E o fr).tch (.loc (o.dst.getD 0) 0) ∧ (fp E o fr).wrt (.loc (o.dst.getD 0) 0) := by
          have : (fp E o fr).fam = some (o.dst.getD 0) := by unfold fp; simp only [ho, hc, ea]
          exact ⟨.inr (.inr ⟨_, _, this, rfl⟩), .inr ⟨_, _, this, rfl⟩⟩
        split at h
        · rename_i e1 e2
          split at h
          · rename_i b ey
            split at h
            · rename_i hb
              obtain ⟨m, fr1, h, l⟩ := evAppend_loc hw hd h
              exact ⟨_, h, locOp_of l (fun fr' C R k' => by unfold evOp; simp only [ho, hc, et, ea, hx fr' C, hy fr' C, e1, e2, ey, hb, if_true]) hf⟩
            · simp at h
          · simp at h
        · rename_i e1 e2
          obtain ⟨rs, h, hr⟩ := rows_all h
          obtain ⟨m, fr1, h, l⟩ := evAppend_loc hw hd h
          refine ⟨_, h, locOp_of l (fun fr' C R k' => ?_) hf⟩
          unfold evOp; simp only [ho, hc, et, ea, hx fr' C, hy fr' C, e1, e2]
          rw [hr fr' (fun h hh => C.ag h (.inl (by unfold fp; simp only [ho, hc, ea]; exact hh)))]
        · simp at h
      · simp at h
    · rename_i x hc
      split at h
      case h_2 => simp at h
      rename_i gf caps ex
      have hops : ∀ fr', Cond E o fr fr' → opnd fr' x = opnd fr x ∧ c.args.toList.map (opnd fr') = c.args.toList.map (opnd fr) := fun fr' C =>
        ⟨C.op x (by rw [ho]; simp [Op.operands, Call.operands, hc]), List.map_congr_left fun y hy => C.op y (by rw [ho]; simp only [Op.operands, Call.operands, hc]; simp; right; simpa using hy)⟩
      have hfp : fp E o fr = fpCall E gf (c.args.toList.map (opnd fr) ++ caps) fr o := by unfold fp; simp only [ho, hc, ex]
      unfold evCall at h
      obtain ⟨m, fr1, h, l, hf⟩ := evCallM_loc h
      refine ⟨_, h, locOp_of (by rw [hfp]; exact l) (fun fr' C R k' => ?_) fun fr' C => ?_⟩
      · unfold evOp; simp only [ho, hc, (hops fr' C).1, ex, (hops fr' C).2]; rfl
      · have : fp E o fr' = fpCall E gf (c.args.toList.map (opnd fr) ++ caps) fr' o := by unfold fp; simp only [ho, hc, (hops fr' C).1, ex, (hops fr' C).2]
        rw [this, hfp]
        exact hf fr' fun h hh => C.ag h (by rw [hfp]; exact hh)
    · simp at h
  · simp at h
end
end Kw
namespace Kw
open Go
section
variable {E : Env} {run : Run} {all : Array Oper}
theorem wrt_tch {p : Fp} {h : H} (x : p.wrt h) : p.tch h := x.elim (fun x => .inr (.inl x)) fun x => .inr (.inr x)
def Ext (fr fr' : Fr) : Prop := fr.sl = fr'.sl ∧ ∀ h, AgH fr fr' h
theorem Ext.refl (fr : Fr) : Ext fr fr := ⟨rfl, fun _ => AgH.refl _ _⟩
theorem Ext.trans {a b c : Fr} (x : Ext a b) (y : Ext b c) : Ext a c := ⟨x.1.trans y.1, fun h => (x.2 h).trans (y.2 h)⟩
theorem Ext.symm {a b : Fr} (x : Ext a b) : Ext b a := ⟨x.1.symm, fun h => (x.2 h).symm⟩
def WantsIs (all : Array Oper) (o : Oper) (fr : Fr) (b : Bool) : Prop :=
  match o.guard with
  | none => b = true
  | some (j, want) => ∃ d, (all[j]?).bind (·.dst) = some d ∧ ((skipped (fr.get d) = true ∧ b = false) ∨ ∃ v, fr.get d = .bool v ∧ b = (v == want))
inductive Stp (E : Env) (run : Run) (all : Array Oper) (o : Oper) (fr fr1 : Fr) (p : Fp) : Prop
  | ex (hw : WantsIs all o fr true) (l : LocOp E run o fr fr1) (hp : p = fp E o fr)
  | sk (hw : WantsIs all o fr false) (h : fr1 = fr.finish o.dst (.tup [])) (hp : p = ⟨[], [], none⟩)
theorem wants_loc {o : Oper} {fr fr' : Fr} {b : Bool} (h : WantsIs all o fr b) (ht : ∀ t ∈ o.looksAt all, fr'.get t = fr.get t) : WantsIs all o fr' b := by
  unfold WantsIs at *
  split
  · rename_i hg; rw [hg] at h; exact h
  · rename_i j want hg
    rw [hg] at h
    obtain ⟨d, hd, h⟩ := h
    have e := ht d (by unfold Oper.looksAt; rw [hg]; simp only [hd]; simp)
    refine ⟨d, hd, ?_⟩
    rw [e]
    exact h
theorem opnds_loc {o : Oper} {fr fr' : Fr} (ht : ∀ t ∈ o.looksAt all, fr'.get t = fr.get t) : ∀ x ∈ o.op.operands.toList, opnd fr' x = opnd fr x := by
  intro x hx
  cases x with
  | tmp t => exact ht t (List.mem_append_left _ (List.mem_filterMap.2 ⟨_, hx, rfl⟩))
  | const v => rfl
  | global k => rfl
  | func f => rfl
theorem LocOp.move {o : Oper} {fr fr1 fr' fr1' : Fr} {m : MV} (C : Cond E o fr fr') (hf : fp E o fr' = fp E o fr) (e1 : ∀ (R : Type) (k' : Fr → Option R), evOp E run o fr' k' = k' fr1') (a1 : ∀ h, (fp E o fr).tch h → AgH fr1 fr1' h) (w1 : ∀ h, ¬ (fp E o fr).wrt h → AgH fr' fr1' h) (s1 : fr1'.sl = setD fr'.sl o.dst m)
    (hl : ∀ fr', Cond E o fr fr' → ∃ fr1', (∀ (R : Type) (k' : Fr → Option R), evOp E run o fr' k' = k' fr1') ∧ fp E o fr' = fp E o fr ∧ (∀ h, (fp E o fr).tch h → AgH fr1 fr1' h) ∧ (∀ h, ¬ (fp E o fr).wrt h → AgH fr' fr1' h) ∧ fr1'.sl = setD fr'.sl o.dst m) : LocOp E run o fr' fr1' := by
  refine ⟨m, s1, fun h hh => w1 h (by rw [← hf]; exact hh), e1, fun fr2 C2 => ?_⟩
  obtain ⟨fr3, e3, f3, a3, w3, s3⟩ := hl fr2 ⟨fun x hx => (C2.op x hx).trans (C.op x hx), fun h hh => (C.ag h hh).trans (C2.ag h (by rw [hf]; exact hh))⟩
  rw [hf]
  exact ⟨fr3, e3, f3, fun h hh => (a1 h hh).symm.trans (a3 h hh), w3, s3⟩
theorem Stp.loc {o : Oper} {fr fr1 : Fr} {p : Fp} (s : Stp E run all o fr fr1 p) : ∃ m, fr1.sl = setD fr.sl o.dst m ∧ (∀ h, ¬ p.wrt h → AgH fr fr1 h) ∧
    ∀ fr', (∀ t ∈ o.looksAt all, fr'.get t = fr.get t) → (∀ h, p.tch h → AgH fr fr' h) → ∃ fr1', Stp E run all o fr' fr1' p ∧ (∀ h, p.tch h → AgH fr1 fr1' h) ∧ (∀ h, ¬ p.wrt h → AgH fr' fr1' h) ∧ fr1'.sl = setD fr'.sl o.dst m := by
  cases s with
  | ex hw l hp =>
    subst hp
    obtain ⟨m, hs, hsame, hev, hl⟩ := l
    refine ⟨m, hs, hsame, fun fr' ht ha => ?_⟩
    have C : Cond E o fr fr' := ⟨opnds_loc ht, ha⟩
    obtain ⟨fr1', e1, f1, a1, w1, s1⟩ := hl fr' C
    exact ⟨fr1', .ex (wants_loc hw ht) (LocOp.move C f1 e1 a1 w1 s1 hl) f1.symm, a1, w1, s1⟩
  | sk hw h hp =>
    subst hp; subst h
    have hno : ∀ h, ¬ (⟨[], [], none⟩ : Fp).tch h := fun h hh => by
      rcases hh with x | x | ⟨d, j, x, _⟩
      · simp at x
      · simp at x
      · cases x
    refine ⟨.tup [], finish_sl _ _ _, fun h _ => ag_finish' (AgH.refl _ _) _ _, fun fr' ht ha => ⟨fr'.finish o.dst (.tup []), .sk (wants_loc hw ht) rfl rfl, fun h hh => absurd hh (hno h), fun h _ => ag_finish' (AgH.refl _ _) _ _, finish_sl _ _ _⟩⟩
theorem get_setD (sl : List MV) (d : Option Tmp) (m : MV) (t : Nat) (h : d ≠ some t) : (setD sl d m)[t]? = sl[t]? := by
  cases d with
  | none => rfl
  | some d => exact List.getElem?_set_ne (fun e => h (by rw [e]))
theorem get_of {fr : Fr} {t : Nat} : fr.get t = (fr.sl[t]?).getD .undef := List.getD_eq_getElem?_getD
/-- what does not see each other may change places -/
theorem diamond {oi oj : Oper} {fr fr1 fr2 : Fr} {p q : Fp} (si : Stp E run all oi fr fr1 p) (sj : Stp E run all oj fr1 fr2 q) (ht : oi.apart all oj = true) (hm : ∀ h, (p.wrt h → ¬ q.tch h) ∧ (q.wrt h → ¬ p.tch h)) :
    ∃ fr1' fr2', Stp E run all oj fr fr1' q ∧ Stp E run all oi fr1' fr2' p ∧ Ext fr2 fr2' := by
  obtain ⟨h1, h2, h3⟩ := Oper.apart_spec ht
  obtain ⟨mi, hsi, hwi, hli⟩ := si.loc
  obtain ⟨mj, hsj, hwj, hlj⟩ := sj.loc
  obtain ⟨fr1', sj', aj, wj, tj⟩ := hlj fr (fun t htt => by
      rw [get_of, get_of, hsi, get_setD _ _ _ _ fun e => h1 t e htt]) (fun h hh => (hwi h fun hw => (hm h).1 hw hh).symm)
  obtain ⟨fr2', si', ai, wi, ti⟩ := hli fr1' (fun t htt => by
      rw [get_of, get_of, tj, get_setD _ _ _ _ fun e => h3 t e htt]) (fun h hh => wj h fun hw => (hm h).2 hw hh)
  refine ⟨fr1', fr2', sj', si', ?_, fun h => ?_⟩
  · rw [hsj, hsi, ti, tj]
    cases ei : oi.dst with
    | none => rfl
    | some d =>
      cases ej : oj.dst with
      | none => rfl
      | some d' =>
        have hne : d ≠ d' := fun e => h2 d ei (by rw [ej, e])
        exact List.set_comm _ _ hne
  · by_cases hwp : p.wrt h
    · have hnq : ¬ q.wrt h := fun hq => (hm h).1 hwp (wrt_tch hq)
      exact (hwj h hnq).symm.trans (ai h (wrt_tch hwp))
    · by_cases hwq : q.wrt h
      · exact (aj h (wrt_tch hwq)).trans (wi h hwp)
      · exact (((hwj h hwq).symm.trans (hwi h hwp).symm).trans (wj h hwq)).trans (wi h hwp)
/-- edges one behind the other -/
inductive Path (all : Array Oper) : Nat → Nat → Prop
  | one {i j : Nat} {oj : Oper} {e : Edge} (hj : all[j]? = some oj) (he : e ∈ oj.after) (hb : Region.binds .any e = true) (h : e.on = i) : Path all i j
  | more {i k j : Nat} {oj : Oper} {e : Edge} (p : Path all i k) (hj : all[j]? = some oj) (he : e ∈ oj.after) (hb : Region.binds .any e = true) (h : e.on = k) : Path all i j
def Cl (all : Array Oper) (listed : Array Bool) : Prop := ∀ (k : Nat) (ok : Oper), all[k]? = some ok → listed.getD k false = true → ∀ e ∈ ok.after, Region.binds .any e = true → listed.getD e.on false = true
theorem Cl.path {listed : Array Bool} (c : Cl all listed) {i j : Nat} (p : Path all i j) (hj : listed.getD j false = true) : listed.getD i false = true := by
  induction p with
  | one h1 he hb h => exact h ▸ c _ _ h1 hj _ he hb
  | more p h1 he hb h ih => exact ih (h ▸ c _ _ h1 hj _ he hb)
theorem Cl.ready {listed : Array Bool} (c : Cl all listed) {i j : Nat} (p : Path all i j) (hj : j ∈ Region.ready .any all listed) : listed.getD i false = true := by
  obtain ⟨_, o, ho, hall⟩ := mem_ready.1 hj
  cases p with
  | one h1 he hb h =>
    rw [ho] at h1; cases h1
    exact h ▸ hall _ he hb
  | more p h1 he hb h =>
    rw [ho] at h1; cases h1
    exact c.path p (h ▸ hall _ he hb)
theorem Cl.add {listed : Array Bool} (c : Cl all listed) {j : Nat} (hj : j ∈ Region.ready .any all listed) : Cl all (listed.setIfInBounds j true) := by
  intro k ok hk hl e he hb
  obtain ⟨_, o, ho, hall⟩ := mem_ready.1 hj
  by_cases ek : j = k
  · subst ek
    rw [ho] at hk; cases hk
    exact getD_set_true (hall e he hb)
  · rw [getD_set_ne false ek] at hl
    exact getD_set_true (c k ok hk hl e he hb)
variable {T : Nat → Fp} {e : Fr}
def AnyF (E : Env) (run : Run) (all : Array Oper) (T : Nat → Fp) (e : Fr) : Nat → Array Bool → Fr → Prop
  | 0, listed, fr => Region.ready .any all listed = [] ∧ Ext fr e
  | n + 1, listed, fr => (Region.ready .any all listed = [] → Ext fr e) ∧ ∀ i ∈ Region.ready .any all listed, ∃ o, all[i]? = some o ∧ ∃ fr1, Stp E run all o fr fr1 (T i) ∧ AnyF E run all T e n (listed.setIfInBounds i true) fr1
theorem AnyF.ext : ∀ {n : Nat} {listed : Array Bool} {fr fr' : Fr}, AnyF E run all T e n listed fr → Ext fr fr' → AnyF E run all T e n listed fr'
  | 0, listed, fr, fr', h, x => ⟨h.1, x.symm.trans h.2⟩
  | n + 1, listed, fr, fr', h, x => ⟨fun h0 => x.symm.trans (h.1 h0), fun i hi => by
    obtain ⟨o, ho, fr1, s, h'⟩ := h.2 i hi
    obtain ⟨m, hs, hw, hl⟩ := s.loc
    obtain ⟨fr1', s', a1, w1, t1⟩ := hl fr' (fun t _ => by rw [get_of, get_of, x.1]) fun h _ => x.2 h
    refine ⟨o, ho, fr1', s', AnyF.ext h' ⟨by rw [hs, t1, x.1], fun h => ?_⟩⟩
    by_cases hp : (T i).wrt h
    · exact a1 h (wrt_tch hp)
    · exact ((hw h hp).symm.trans (x.2 h)).trans (w1 h hp)⟩
theorem anyF_first {i : Nat} {oi : Oper} (hi : all[i]? = some oi) : ∀ (n : Nat) (listed : Array Bool) (fr fr1 : Fr), Cl all listed →
    (∀ (j : Nat) (oj : Oper), all[j]? = some oj → j ≠ i → listed.getD j true = false → (∀ e ∈ oj.after, Region.binds .any e = true → e.on ≠ i) → ¬ Path all i j → oi.apart all oj = true ∧ ∀ h, ((T i).wrt h → ¬ (T j).tch h) ∧ ((T j).wrt h → ¬ (T i).tch h)) →
    i ∈ Region.ready .any all listed → Stp E run all oi fr fr1 (T i) → AnyF E run all T e n (listed.setIfInBounds i true) fr1 → AnyF E run all T e (n + 1) listed fr := by
  intro n
  induction n with
  | zero =>
    intro listed fr fr1 _ _ hr hy H
    refine ⟨fun h => (by rw [h] at hr; cases hr), fun j hj => ?_⟩
    by_cases hji : j = i
    · subst hji; exact ⟨oi, hi, fr1, hy, H⟩
    · have := ready_mono hj hji
      rw [H.1] at this
      cases this
  | succ n ih =>
    intro listed fr fr1 hcl hfree hr hy H
    refine ⟨fun h => (by rw [h] at hr; cases hr), fun j hj => ?_⟩
    by_cases hji : j = i
    · subst hji; exact ⟨oi, hi, fr1, hy, H⟩
    · obtain ⟨oj, hoj, fr2, sj, H'⟩ := H.2 j (ready_mono hj hji)
      obtain ⟨hjun, oj', hoj', hall⟩ := mem_ready.1 hj
      rw [hoj] at hoj'
      cases hoj'
      have hnot : ∀ e ∈ oj.after, Region.binds .any e = true → e.on ≠ i := fun e he hb heq => by
        have h1 := hall e he hb
        have h0 := (mem_ready.1 hr).1
        rw [heq] at h1
        rcases Nat.lt_or_ge i listed.size with h' | h'
        · simp [h'] at h0 h1; rw [h0] at h1; cases h1
        · simp [Array.getElem?_eq_none h'] at h1
      have hnp : ¬ Path all i j := fun p => by
        have h1 := hcl.ready p hj
        have h0 := (mem_ready.1 hr).1
        rcases Nat.lt_or_ge i listed.size with h' | h'
        · simp [h'] at h0 h1; rw [h0] at h1; cases h1
        · simp [Array.getElem?_eq_none h'] at h1
      obtain ⟨hap, hmem⟩ := hfree j oj hoj hji hjun hnot hnp
      obtain ⟨fr1', fr2', sj', si', hx⟩ := diamond hy sj hap hmem
      refine ⟨oj, hoj, fr1', sj', ih _ fr1' fr2' (hcl.add hj) (fun k ok hk hki hun hno hnp => hfree k ok hk hki ?_ hno hnp) (ready_mono hr (Ne.symm hji)) si' ?_⟩
      · by_cases hjk : j = k
        · subst hjk; exact hjun
        · rw [getD_set_ne true hjk] at hun; exact hun
      · rw [Array.setIfInBounds_comm _ _ hji]
        exact H'.ext hx
inductive Chain (E : Env) (run : Run) (all : Array Oper) : List Oper → Fr → List Fp → Fr → Prop
  | nil (fr : Fr) : Chain E run all [] fr [] fr
  | cons {o : Oper} {os : List Oper} {fr fr1 e : Fr} {p : Fp} {ps : List Fp} (s : Stp E run all o fr fr1 p) (t : Chain E run all os fr1 ps e) : Chain E run all (o :: os) fr (p :: ps) e
theorem anyF_lex : ∀ (l : List Oper) (ps : List Fp) (k : Nat) (listed : Array Bool) (fr : Fr), (∀ j, l[j]? = all[k + j]?) → (∀ j p, ps[j]? = some p → T (k + j) = p) → Region.lexFrom .any all l.length k listed = true → (∀ j, j < k → listed.getD j true = true) → listed.size = all.size → Cl all listed →
    (∀ (i j : Nat) (oi oj : Oper), all[i]? = some oi → all[j]? = some oj → i < j → ¬ Path all i j → ∀ h, ((T i).wrt h → ¬ (T j).tch h) ∧ ((T j).wrt h → ¬ (T i).tch h)) →
    Chain E run all l fr ps e → AnyF E run all T e l.length listed fr
  | [], ps, k, listed, fr, _, _, hB, _, _, _, _, h => by
    cases h
    exact ⟨by simpa [Region.lexFrom] using hB, Ext.refl _⟩
  | o :: l, ps, k, listed, fr, hl, hT, hB, hk, hsz, hcl, hm, h => by
    cases h with
    | @cons _ _ _ fr1 _ p ps s t =>
      have h0 : all[k]? = some o := by simpa using (hl 0).symm
      simp only [List.length_cons, Region.lexFrom, Bool.and_eq_true] at hB
      obtain ⟨⟨hr, hf⟩, hB'⟩ := hB
      have hTk : T k = p := hT 0 p (by simp)
      have hklt : k < all.size := (Array.getElem?_eq_some_iff.1 h0).1
      refine anyF_first h0 l.length listed fr fr1 hcl (fun j oj hj hne hun hno hnp => ⟨Region.free_spec h0 hf j oj hj hne hun hno, ?_⟩) (by simpa using hr) (by rw [hTk]; exact s)
        (anyF_lex l ps (k + 1) _ fr1 (fun j => by have := hl (j + 1); simpa [Nat.add_assoc, Nat.add_comm 1 j] using this) (fun j p hj => by have := hT (j + 1) p (by simpa using hj); rw [← this]; congr 1; omega) hB' (fun j hj => ?_) (by simpa using hsz) (hcl.add (by simpa using hr)) hm t)
      · have hjk : k < j := by
          rcases Nat.lt_trichotomy j k with x | x | x
          · rw [hk j x] at hun; cases hun
          · exact absurd x hne
          · exact x
        exact hm k j o oj h0 hj hjk hnp
      · by_cases e : k = j
        · subst e
          have : k < listed.size := by omega
          simp [this]
        · rw [getD_set_ne true e]; exact hk j (by omega)
end
end Kw
