import Derived.Test.YtphammifhilpdaaDoorD14
namespace Kw
set_option linter.unusedVariables false
set_option linter.unusedSimpArgs false
set_option linter.unusedSectionVars false
/-- how many bytes of a text name a secret -/
def psz (u : S) : Nat := match pars u with | some (x, _) => x.str.length | none => 0
theorem took_pars (u : S) : took u (pars u) = psz u := by
  unfold took psz
  cases e : pars u with
  | none => rfl
  | some x =>
    obtain ⟨t, r⟩ := x
    obtain ⟨_, h⟩ := pars_sound e
    simp only
    rw [h]; simp
theorem took_fresh (u : S) : took u (pFresh u) = match pFresh u with | some (x, _) => (x.str.length : Int) | none => 0 := by
  unfold took
  cases e : pFresh u with
  | none => rfl
  | some x =>
    obtain ⟨t, r⟩ := x
    obtain ⟨_, h⟩ := pFresh_sound e
    simp only
    rw [h]; simp
theorem psz_some {u : S} {x : Sec} {r : S} (h : pars u = some (x, r)) : psz u = x.str.length ∧ u.drop (psz u) = r ∧ u.take (psz u) = x.str ∧ 0 < psz u ∧ psz u ≤ u.length := by
  have e : psz u = x.str.length := by unfold psz; rw [h]
  obtain ⟨_, hs⟩ := pars_sound h
  refine ⟨e, ?_, ?_, ?_, ?_⟩
  · rw [e, hs]; simp
  · rw [e, hs]; simp
  · rw [e]; exact x.str_pos
  · rw [e, hs]; simp
theorem psz_none {u : S} (h : pars u = none) : psz u = 0 := by unfold psz; rw [h]
theorem psz_le (u : S) : psz u ≤ u.length := by
  cases e : pars u with
  | none => rw [psz_none e]; omega
  | some x => exact (psz_some (x := x.1) (r := x.2) e).2.2.2.2
theorem psz_nil : psz [] = 0 := rfl
theorem pars_cons (c : UInt8) (t : S) : pars (c :: t) =
    if c = 110 then (match pars t with | some (x, r) => some (.next x, r) | none => none)
    else if c = 107 then (match pars t with | some (x, r) => some (.key x, r) | none => none)
    else if c = 109 then (match t with
      | [] => none
      | w :: t => if 65 ≤ w.toNat ∧ w.toNat ≤ 72 then (match pars t with | some (x, r) => some (.say (w.toNat - 65) x, r) | none => none) else none)
    else if c = 114 then (match t with
      | [] => none
      | w :: t => if 49 ≤ w.toNat ∧ w.toNat ≤ 57 then (match pars t with | some (x, r) => some (.room (w.toNat - 48) x, r) | none => none) else none)
    else if c = 101 then (match pars t with
      | some (x, r) => (match pars r with | some (y, r) => some (.epoch x y, r) | none => none)
      | none => none)
    else pFresh (c :: t) := by
  have e : pars (c :: t) = parse (t.length + 1 + 1) (c :: t) := rfl
  rw [e]
  conv => lhs; unfold parse
  have e1 : parse (t.length + 1) t = pars t := rfl
  rw [e1]
  split
  · rfl
  split
  · rfl
  split
  · cases t with
    | nil => rfl
    | cons w t =>
      simp only
      rw [pars_eq (n := (w :: t).length + 1) (s := t) (by simp; omega)]
      all_goals rfl
  split
  · cases t with
    | nil => rfl
    | cons w t =>
      simp only
      rw [pars_eq (n := (w :: t).length + 1) (s := t) (by simp; omega)]
      all_goals rfl
  split
  · cases e2 : pars t with
    | none => rfl
    | some x =>
      obtain ⟨x, r⟩ := x
      obtain ⟨_, hs⟩ := pars_sound e2
      simp only
      rw [pars_eq (n := t.length + 1) (s := r) (by rw [hs]; simp; omega)]
      rfl
  · rfl
theorem psz1 {c : UInt8} {t : S} (h : c = 110 ∨ c = 107) : psz (c :: t) = if psz t = 0 then 0 else 1 + psz t := by
  cases e : pars t with
  | none =>
    rw [psz_none e, if_pos rfl]
    unfold psz
    rw [pars_cons, e]
    rcases h with h | h <;> subst h <;> simp
  | some x =>
    obtain ⟨x, r⟩ := x
    have hp := psz_some e
    rw [if_neg (by omega), hp.1]
    unfold psz
    rw [pars_cons, e]
    rcases h with h | h <;> subst h <;> simp [Sec.str] <;> omega
theorem psz2 {w : UInt8} {t : S} (h : 65 ≤ w.toNat ∧ w.toNat ≤ 72) : psz (109 :: w :: t) = if psz t = 0 then 0 else 2 + psz t := by
  cases e : pars t with
  | none =>
    rw [psz_none e, if_pos rfl]
    unfold psz
    rw [pars_cons, if_neg (by decide), if_neg (by decide), if_pos rfl]
    simp only
    rw [if_pos h, e]
  | some x =>
    obtain ⟨x, r⟩ := x
    have hp := psz_some e
    rw [if_neg (by omega), hp.1]
    unfold psz
    rw [pars_cons, if_neg (by decide), if_neg (by decide), if_pos rfl]
    simp only
    rw [if_pos h, e]
    simp [Sec.str]; omega
theorem psz2n {t : S} (h : ∀ w u, t = w :: u → ¬ (65 ≤ w.toNat ∧ w.toNat ≤ 72)) : psz (109 :: t) = 0 := by
  unfold psz
  rw [pars_cons, if_neg (by decide), if_neg (by decide), if_pos rfl]
  cases t with
  | nil => rfl
  | cons w u => simp only; rw [if_neg (h w u rfl)]
theorem psz3 {w : UInt8} {t : S} (h : 49 ≤ w.toNat ∧ w.toNat ≤ 57) : psz (114 :: w :: t) = if psz t = 0 then 0 else 2 + psz t := by
  cases e : pars t with
  | none =>
    rw [psz_none e, if_pos rfl]
    unfold psz
    rw [pars_cons, if_neg (by decide), if_neg (by decide), if_neg (by decide), if_pos rfl]
    simp only
    rw [if_pos h, e]
  | some x =>
    obtain ⟨x, r⟩ := x
    have hp := psz_some e
    rw [if_neg (by omega), hp.1]
    unfold psz
    rw [pars_cons, if_neg (by decide), if_neg (by decide), if_neg (by decide), if_pos rfl]
    simp only
    rw [if_pos h, e]
    simp [Sec.str]; omega
theorem psz3n {t : S} (h : ∀ w u, t = w :: u → ¬ (49 ≤ w.toNat ∧ w.toNat ≤ 57)) : psz (114 :: t) = 0 := by
  unfold psz
  rw [pars_cons, if_neg (by decide), if_neg (by decide), if_neg (by decide), if_pos rfl]
  cases t with
  | nil => rfl
  | cons w u => simp only; rw [if_neg (h w u rfl)]
theorem psz4 {t : S} : psz (101 :: t) = if psz t = 0 then 0 else if psz (t.drop (psz t)) = 0 then 0 else 1 + psz t + psz (t.drop (psz t)) := by
  cases e : pars t with
  | none =>
    rw [psz_none e, if_pos rfl]
    unfold psz
    rw [pars_cons, if_neg (by decide), if_neg (by decide), if_neg (by decide), if_neg (by decide), if_pos rfl, e]
  | some x =>
    obtain ⟨x, r⟩ := x
    have hp := psz_some e
    rw [if_neg (by omega), hp.2.1]
    cases e2 : pars r with
    | none =>
      rw [psz_none e2, if_pos rfl]
      unfold psz
      rw [pars_cons, if_neg (by decide), if_neg (by decide), if_neg (by decide), if_neg (by decide), if_pos rfl, e]
      simp only
      rw [e2]
    | some y =>
      obtain ⟨y, r'⟩ := y
      have hq := psz_some e2
      rw [if_neg (by omega), hp.1, hq.1]
      unfold psz
      rw [pars_cons, if_neg (by decide), if_neg (by decide), if_neg (by decide), if_neg (by decide), if_pos rfl, e]
      simp only
      rw [e2]
      simp [Sec.str]; omega
theorem psz5 {c : UInt8} {t : S} (h : c ≠ 110 ∧ c ≠ 107 ∧ c ≠ 109 ∧ c ≠ 114 ∧ c ≠ 101) : (psz (c :: t) : Int) = took (c :: t) (pFresh (c :: t)) := by
  rw [took_fresh]
  unfold psz
  rw [pars_cons, if_neg h.1, if_neg h.2.1, if_neg h.2.2.1, if_neg h.2.2.2.1, if_neg h.2.2.2.2]
  cases pFresh (c :: t) <;> rfl
theorem secOk_psz (s : S) : secOk s = decide (s ≠ [] ∧ s.length ≤ 300 ∧ psz s = s.length) := by
  unfold secOk sec
  by_cases h : s.length ≤ 300
  · rw [if_pos h]
    unfold pnt
    cases e : pars s with
    | none =>
      have := psz_none e
      cases s with
      | nil => simp
      | cons c t => simp [this]
    | some x =>
      obtain ⟨x, r⟩ := x
      have hp := psz_some e
      obtain ⟨_, hs⟩ := pars_sound e
      have hl : s.length = x.str.length + r.length := by rw [hs]; simp
      cases r with
      | nil =>
        have : s ≠ [] := fun e => by rw [e] at hp; simp at hp; omega
        have h2 : psz s = s.length := by rw [hp.1, hl]; simp
        simp [this, h, h2]
      | cons a r =>
        have h2 : psz s ≠ s.length := by rw [hp.1, hl]; simp
        simp [h2]
  · rw [if_neg h]; simp [h]
end Kw
