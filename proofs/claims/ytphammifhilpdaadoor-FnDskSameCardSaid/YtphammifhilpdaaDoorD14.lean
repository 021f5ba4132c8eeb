import Derived.Test.YtphammifhilpdaaDoorD13
namespace Kw
set_option linter.unusedVariables false
set_option linter.unusedSimpArgs false
set_option linter.unusedSectionVars false
def isDig (b : UInt8) : Prop := 48 ≤ b.toNat ∧ b.toNat ≤ 57
instance (b : UInt8) : Decidable (isDig b) := inferInstanceAs (Decidable (_ ∧ _))
/-- behind the digits -/
def freshEnd (s : S) (p k num : Nat) : Int := if k < s.length ∧ (ix s k).toNat = 59 ∧ makNew ((ix s p).toNat - 65 : Int) num = (s.take (k + 1)).drop p then k + 1 - p else 0
/-- digits from a place on -/
def freshGo (s : S) (p : Nat) : Nat → Nat → Nat → Int
  | 0, k, num => freshEnd s p k num
  | m + 1, k, num => if k < s.length ∧ isDig (ix s k) then freshGo s p m (k + 1) (num * 10 + ((ix s k).toNat - 48)) else freshEnd s p k num

/-- how many bytes a parser takes -/
def took (s : S) (o : Option (Sec × S)) : Int := match o with | some (_, r) => s.length - r.length | none => 0
theorem ix_app (p u : S) (j : Nat) (h : j < u.length) : ix (p ++ u) ((p.length + j : Nat) : Int) = u[j] := by
  rw [ix_nat _ _ (by simp; omega)]
  simp
def fE (u : S) (c : UInt8) (j num : Nat) : Int := if (u.drop j).head? = some 59 ∧ makNew (c.toNat - 65 : Int) num = u.take (j + 1) then j + 1 else 0
def fG (u : S) (c : UInt8) : Nat → Nat → Nat → Int
  | 0, j, num => fE u c j num
  | m + 1, j, num => match u.drop j with
    | [] => fE u c j num
    | x :: _ => if isDig x then fG u c m (j + 1) (num * 10 + (x.toNat - 48)) else fE u c j num
theorem take_drop_app (q u : S) (n : Nat) : (List.take (q.length + n) (q ++ u)).drop q.length = u.take n := by
  rw [List.take_append, List.drop_append]
  simp
theorem head_drop (u : S) (j : Nat) : (u.drop j).head? = u[j]? := by simp [List.head?_drop]
theorem freshEnd_app (q u : S) (c : UInt8) (t : S) (hu : u = c :: t) (j num : Nat) : freshEnd (q ++ u) q.length (q.length + j) num = fE u c j num := by
  have h0 : ix (q ++ u) (q.length : Int) = c := by
    have := ix_app q u 0 (by rw [hu]; simp)
    rw [Nat.add_zero] at this
    rw [this]; subst hu; rfl
  unfold freshEnd fE
  rw [h0, Nat.add_assoc, take_drop_app, head_drop]
  by_cases hj : j < u.length
  · rw [ix_app q u j hj, List.getElem?_eq_getElem hj]
    have e1 : q.length + j < (q ++ u).length := by simp; omega
    have e2 : ((u[j]).toNat = 59) ↔ (some u[j] = some (59 : UInt8)) := by
      rw [Option.some.injEq, ← UInt8.toNat_inj]; rfl
    by_cases h : (some u[j] = some (59 : UInt8)) ∧ makNew (c.toNat - 65 : Int) num = u.take (j + 1)
    · rw [if_pos ⟨e1, e2.2 h.1, h.2⟩, if_pos h]; push_cast; omega
    · rw [if_neg (fun e => h ⟨e2.1 e.2.1, e.2.2⟩), if_neg h]
  · rw [if_neg (fun e => hj (by have := e.1; simp at this; omega)), if_neg (fun e => by rw [List.getElem?_eq_none (by omega)] at e; cases e.1)]
theorem freshGo_app (q u : S) (c : UInt8) (t : S) (hu : u = c :: t) : ∀ (m j num : Nat), freshGo (q ++ u) q.length m (q.length + j) num = fG u c m j num
  | 0, j, num => freshEnd_app q u c t hu j num
  | m + 1, j, num => by
    unfold freshGo fG
    cases e : u.drop j with
    | nil =>
      have hj : u.length ≤ j := by simpa using e
      rw [if_neg (fun e => by have := e.1; simp at this; omega)]
      exact freshEnd_app q u c t hu j num
    | cons x v =>
      have hj : j < u.length := by
        rcases Nat.lt_or_ge j u.length with h | h
        · exact h
        · rw [List.drop_eq_nil_of_le h] at e; cases e
      have hx : u[j] = x := by
        rw [List.drop_eq_getElem_cons hj] at e
        exact (List.cons.inj e).1
      simp only
      rw [ix_app q u j hj, hx]
      by_cases hd : isDig x
      · rw [if_pos ⟨by simp; omega, hd⟩, if_pos hd]
        exact freshGo_app q u c t hu m (j + 1) _
      · rw [if_neg (fun e => hd e.2), if_neg hd]
        exact freshEnd_app q u c t hu j num
theorem makNew_big {w n : Int} (h : 99 < n) : makNew w n = [] := if_neg (fun e => by omega)
theorem makNew_zero (w : Int) : makNew w 0 = [] := if_neg (fun e => by omega)
theorem makNew_of {c : UInt8} (h1 : 65 ≤ c.toNat) (h2 : c.toNat ≤ 72) {n : Nat} (h3 : 1 ≤ n) (h4 : n ≤ 99) : makNew (c.toNat - 65 : Int) n = c :: (plain n ++ [59]) := by
  unfold makNew
  rw [if_pos ⟨⟨by omega, by omega⟩, by omega, by omega⟩]
  have : ((c.toNat : Int) - 65).toNat = c.toNat - 65 := by omega
  unfold whoS
  rw [this, letter_of h1 h2]
  simp
theorem fG_fresh (c : UInt8) (t : S) (h1 : 65 ≤ c.toNat) (h2 : c.toNat ≤ 72) : fG (c :: t) c 3 1 0 = took (c :: t) (pFresh (c :: t)) := by
  have dne : ∀ x : UInt8, isDig x → x ≠ 59 := fun x hx e => by subst e; simp [isDig] at hx
  cases t with
  | nil => simp [fG, fE, took, pFresh]
  | cons d t =>
    by_cases hd : isDig d
    case neg =>
      have : ¬ (49 ≤ d.toNat ∧ d.toNat ≤ 57) := fun e => hd ⟨by omega, e.2⟩
      simp [fG, fE, took, pFresh, hd, this, makNew_zero]
    obtain ⟨d1, d2⟩ := hd
    cases t with
    | nil => simp [fG, fE, took, pFresh, isDig, d1, d2]
    | cons e t =>
      by_cases he : isDig e
      case neg =>
        have he' : ¬ (48 ≤ e.toNat ∧ e.toNat ≤ 57) := he
        by_cases h0 : d.toNat = 48
        · have : ¬ (49 ≤ d.toNat ∧ d.toNat ≤ 57) := by omega
          simp [fG, fE, took, pFresh, isDig, d1, d2, he', this, h0, makNew_zero]
        · have hm : makNew (c.toNat - 65 : Int) ((0 * 10 + (d.toNat - 48) : Nat) : Int) = c :: d :: [59] := by
            rw [makNew_of h1 h2 (by omega) (by omega), plain1 (by omega), Nat.zero_mul, Nat.zero_add, digit_of (by omega) (by omega)]; rfl
          have h49 : 49 ≤ d.toNat := by omega
          by_cases e59 : e = 59
          · subst e59
            simp only [fG, isDig, d1, d2, List.drop_succ_cons, List.drop_zero, and_self, if_true, he', if_false]
            unfold fE
            rw [hm]
            simp [took, pFresh, h1, h2, h49, d2]
            omega
          · simp only [fG, isDig, d1, d2, List.drop_succ_cons, List.drop_zero, and_self, if_true, he', if_false]
            unfold fE
            simp [took, pFresh, h1, h2, h49, d2, e59, he']
      obtain ⟨e1, e2⟩ := he
      have ene := dne e ⟨e1, e2⟩
      cases t with
      | nil => 
        simp [fG, fE, took, pFresh, isDig, d1, d2, e1, e2, ene]
      | cons f t =>
        by_cases hf : isDig f
        case neg =>
          have hf' : ¬ (48 ≤ f.toNat ∧ f.toNat ≤ 57) := hf
          have num : 0 * 10 + (d.toNat - 48) = d.toNat - 48 := by omega
          simp only [fG, isDig, d1, d2, e1, e2, hf', List.drop_succ_cons, List.drop_zero, and_self, if_true, if_false, num]
          unfold fE
          by_cases f59 : f = 59
          · subst f59
            by_cases h0 : d.toNat = 48
            · have : ¬ (49 ≤ d.toNat ∧ d.toNat ≤ 57) := by omega
              have hne : makNew (c.toNat - 65 : Int) (((d.toNat - 48) * 10 + (e.toNat - 48) : Nat) : Int) ≠ List.take (2 + 1 + 1) (c :: d :: e :: 59 :: t) := by
                by_cases z : e.toNat = 48
                · have : ((d.toNat - 48) * 10 + (e.toNat - 48) : Nat) = 0 := by omega
                  rw [this]; simp [makNew_zero]
                · rw [makNew_of h1 h2 (by omega) (by omega), plain1 (by omega)]; simp
              rw [if_neg (fun x => hne x.2)]
              simp [took, pFresh, this]
            · have hm : makNew (c.toNat - 65 : Int) (((d.toNat - 48) * 10 + (e.toNat - 48) : Nat) : Int) = c :: d :: e :: [59] := by
                have q1 : ((d.toNat - 48) * 10 + (e.toNat - 48)) / 10 = d.toNat - 48 := by omega
                have q2 : ((d.toNat - 48) * 10 + (e.toNat - 48)) % 10 = e.toNat - 48 := by omega
                rw [makNew_of h1 h2 (by omega) (by omega), plain2 (by omega) (by omega), q1, q2, digit_of (by omega) (by omega), digit_of (by omega) (by omega)]; rfl
              have h49 : 49 ≤ d.toNat := by omega
              rw [hm]
              simp [took, pFresh, h1, h2, h49, d2, e1, e2, ene]
              omega
          · have : (List.drop (2 + 1) (c :: d :: e :: f :: t)).head? ≠ some 59 := by simpa using f59
            rw [if_neg (fun x => this x.1)]
            simp only [took, pFresh]
            by_cases h49 : 49 ≤ d.toNat
            · simp [h1, h2, h49, d2, e1, e2, ene, f59]
            · have : ¬ (49 ≤ d.toNat ∧ d.toNat ≤ 57) := by omega
              simp [this]
        obtain ⟨f1, f2⟩ := hf
        have fne := dne f ⟨f1, f2⟩
        have num : 0 * 10 + (d.toNat - 48) = d.toNat - 48 := by omega
        simp only [fG, isDig, d1, d2, e1, e2, f1, f2, List.drop_succ_cons, List.drop_zero, and_self, if_true, num]
        have hne : makNew (c.toNat - 65 : Int) ((((d.toNat - 48) * 10 + (e.toNat - 48)) * 10 + (f.toNat - 48) : Nat) : Int) ≠ List.take (1 + 1 + 1 + 1 + 1) (c :: d :: e :: f :: t) ∨ (List.drop (1 + 1 + 1 + 1) (c :: d :: e :: f :: t)).head? ≠ some 59 := by
          cases t with
          | nil => right; simp
          | cons g t =>
            by_cases g59 : g = 59
            · left
              by_cases big : 99 < ((d.toNat - 48) * 10 + (e.toNat - 48)) * 10 + (f.toNat - 48)
              · rw [makNew_big (by omega)]; simp
              · by_cases z : ((d.toNat - 48) * 10 + (e.toNat - 48)) * 10 + (f.toNat - 48) = 0
                · rw [z]; simp [makNew_zero]
                · rw [makNew_of h1 h2 (by omega) (by omega)]
                  intro x
                  have := congrArg List.length x
                  by_cases s : ((d.toNat - 48) * 10 + (e.toNat - 48)) * 10 + (f.toNat - 48) ≤ 9
                  · rw [plain1 s] at this; simp at this
                  · rw [plain2 (by omega) (by omega)] at this; simp at this
            · right; simpa using g59
        unfold fE
        rw [if_neg (fun x => hne.elim (fun y => y x.2) (fun y => y x.1))]
        simp only [took, pFresh]
        by_cases h49 : 49 ≤ d.toNat
        · simp [h1, h2, h49, d2, e1, e2, ene, fne]
        · have : ¬ (49 ≤ d.toNat ∧ d.toNat ≤ 57) := by omega
          simp [this]
theorem fresh_eq (s : S) (p : Nat) (hp : p < s.length) : (if 65 ≤ (ix s p).toNat ∧ (ix s p).toNat ≤ 72 then freshGo s p 3 (p + 1) 0 else 0) = took (s.drop p) (pFresh (s.drop p)) := by
  have hd := ix_drop s p hp
  have hq : s = s.take p ++ s.drop p := (List.take_append_drop p s).symm
  have hl : (s.take p).length = p := by simp; omega
  generalize ix s p = c at hd ⊢
  by_cases h : 65 ≤ c.toNat ∧ c.toNat ≤ 72
  · rw [if_pos h]
    have := freshGo_app (s.take p) (s.drop p) c _ hd 3 1 0
    rw [hl, ← hq] at this
    rw [this, hd]
    exact fG_fresh c _ h.1 h.2
  · rw [if_neg h, hd]
    cases s.drop (p + 1) with
    | nil => rfl
    | cons d t => simp only [pFresh]; rw [if_neg (fun x => h x.1)]; rfl
end Kw
