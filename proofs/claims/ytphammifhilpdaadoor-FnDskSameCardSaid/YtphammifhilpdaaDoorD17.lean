import Derived.Test.YtphammifhilpdaaDoorD07
import Derived.Test.YtphammifhilpdaaDoorD16
import Derived.Lib.AtoiAllCases
namespace Kw
set_option linter.unusedVariables false
set_option linter.unusedSimpArgs false
set_option linter.unusedSectionVars false
open Go
/-! what lines say -/
def wCommit : S := [99, 111, 109, 109, 105, 116]
def wHear : S := [104, 101, 97, 114]
def wJoin : S := [106, 111, 105, 110]
def wSteal : S := [115, 116, 101, 97, 108]
def wSay : S := [115, 97, 121]
def wGet : S := [103, 101, 116]
def wAdd : S := [97, 100, 100]
def wRemove : S := [114, 101, 109, 111, 118, 101]
def isW (w : Int) : Bool := decide (0 ≤ w) && decide (w ≤ 7)
def ltr (w : Int) : S := [(65 + w).toNat.toUInt8]
def low : S → Bool
  | [] => true
  | c :: r => decide (97 ≤ c.toNat) && (decide (c.toNat ≤ 122) && low r)
def frT (s : S) : Bool := decide (s.length ≤ 8) && low s
def num2 (n : Int) : S := if n < 10 then [(48 + n).toNat.toUInt8] else [(48 + n / 10).toNat.toUInt8, (48 + n % 10).toNat.toUInt8]
/-- the line of an event -/
def txt (e : Event) : S :=
  if isW e.who = false then [] else
  if e.kind = 1 then wCommit ++ 32 :: ltr e.who ++ (if isW e.add then 32 :: wAdd ++ 32 :: ltr e.add else []) ++ (if isW e.remove then 32 :: wRemove ++ 32 :: ltr e.remove else []) else
  if e.kind = 4 then wSteal ++ 32 :: ltr e.who else
  if e.kind = 5 then (if frT e.text then wSay ++ 32 :: ltr e.who ++ 32 :: e.text else []) else
  if e.kind = 2 ∨ e.kind = 3 ∨ e.kind = 6 then (if 0 ≤ e.pos ∧ e.pos ≤ 99 then (if e.kind = 2 then wHear else if e.kind = 3 then wJoin else wGet) ++ 32 :: ltr e.who ++ 32 :: num2 e.pos else []) else []
/-- the first letter's one -/
def oneI : S → Int
  | [] => -1
  | c :: _ => if isW ((c.toNat : Int) - 65) then (c.toNat : Int) - 65 else -1
def kindI (s : S) : Int := if s = wCommit then 1 else if s = wHear then 2 else if s = wJoin then 3 else if s = wSteal then 4 else if s = wSay then 5 else if s = wGet then 6 else 0
def atoiV (s : S) : Int := match Lib.atoiAll s with | .ok v => v | .range => Lib.atoiSat s | _ => 0
def pairsI : List S → Int → Int → Int × Int
  | a :: b :: r, x, y => if a = wAdd then pairsI r (oneI b) y else pairsI r x (oneI b)
  | _, x, y => (x, y)
def rawI (w0 w1 : S) (rest : List S) : Event :=
  let k := kindI w0
  if k = 1 then ⟨1, oneI w1, (pairsI rest (-1) (-1)).1, (pairsI rest (-1) (-1)).2, 0, []⟩
  else if k = 2 ∨ k = 3 ∨ k = 6 then ⟨k, oneI w1, 0, 0, (match rest with | [a] => atoiV a | _ => 0), []⟩
  else if k = 5 then ⟨k, oneI w1, 0, 0, 0, (match rest with | [a] => a | _ => [])⟩
  else ⟨k, oneI w1, 0, 0, 0, []⟩
def dskI (s : S) : Option Event :=
  match spl [] s with
  | w0 :: w1 :: rest => if 30 < s.length ∨ kindI w0 = 0 then none else if txt (rawI w0 w1 rest) = s then some (rawI w0 w1 rest) else none
  | _ => none
/-- the reference -/
def letS : S → Int
  | [c] => if isW ((c.toNat : Int) - 65) then (c.toNat : Int) - 65 else -1
  | _ => -1
def commitS : List S → Int → Int → Option (Int × Int)
  | a :: b :: r, x, y => if a = wAdd ∧ x < 0 ∧ y < 0 ∧ 0 ≤ letS b then commitS r (letS b) y else if a = wRemove ∧ y < 0 ∧ 0 ≤ letS b then commitS r x (letS b) else none
  | [], x, y => some (x, y)
  | [_], _, _ => none
def dig (c : UInt8) : Bool := decide (48 ≤ c.toNat) && decide (c.toNat ≤ 57)
def numS : S → Int
  | [a] => if dig a then (a.toNat : Int) - 48 else -1
  | [a, b] => if dig a ∧ dig b then (if num2 (((a.toNat : Int) - 48) * 10 + ((b.toNat : Int) - 48)) = [a, b] then ((a.toNat : Int) - 48) * 10 + ((b.toNat : Int) - 48) else -1) else -1
  | _ => -1
def rawS (w0 w1 : S) (rest : List S) : Option Event :=
  if letS w1 < 0 then none else
  if w0 = wCommit then (match commitS rest (-1) (-1) with | some (x, y) => some ⟨1, letS w1, x, y, 0, []⟩ | none => none) else
  if w0 = wSteal then (if rest = [] then some ⟨4, letS w1, 0, 0, 0, []⟩ else none) else
  if w0 = wSay then (match rest with | [a] => some ⟨5, letS w1, 0, 0, 0, a⟩ | _ => none) else
  if w0 = wHear ∨ w0 = wJoin ∨ w0 = wGet then (match rest with | [a] => some ⟨if w0 = wHear then 2 else if w0 = wJoin then 3 else 6, letS w1, 0, 0, numS a, []⟩ | _ => none) else
  some ⟨0, letS w1, 0, 0, 0, []⟩
def dskS (s : S) : Option Event :=
  match spl [] s with
  | w0 :: w1 :: rest => if 30 < s.length then none else (match rawS w0 w1 rest with | some e => if txt e = s then some e else none | none => none)
  | _ => none
/-- events that a line can say -/
def can (e : Event) : Prop := isW e.who = true ∧
  ((e.kind = 1 ∧ (-1 ≤ e.add ∧ e.add ≤ 7) ∧ (-1 ≤ e.remove ∧ e.remove ≤ 7) ∧ e.pos = 0 ∧ e.text = []) ∨
   ((e.kind = 2 ∨ e.kind = 3 ∨ e.kind = 6) ∧ e.add = 0 ∧ e.remove = 0 ∧ (0 ≤ e.pos ∧ e.pos ≤ 99) ∧ e.text = []) ∨
   (e.kind = 4 ∧ e.add = 0 ∧ e.remove = 0 ∧ e.pos = 0 ∧ e.text = []) ∨
   (e.kind = 5 ∧ e.add = 0 ∧ e.remove = 0 ∧ e.pos = 0 ∧ frT e.text = true))
theorem isW_iff {w : Int} : isW w = true ↔ 0 ≤ w ∧ w ≤ 7 := by simp [isW]
theorem oneI_rng (s : S) : -1 ≤ oneI s ∧ oneI s ≤ 7 := by
  unfold oneI
  split
  · omega
  · split
    · rename_i h; rw [isW_iff] at h; omega
    · omega
theorem letS_rng (s : S) : -1 ≤ letS s ∧ letS s ≤ 7 := by
  unfold letS
  split
  · split
    · rename_i h; rw [isW_iff] at h; omega
    · omega
  · omega
theorem pairsI_rng : ∀ (l : List S) (x y : Int), (-1 ≤ x ∧ x ≤ 7) → (-1 ≤ y ∧ y ≤ 7) → (-1 ≤ (pairsI l x y).1 ∧ (pairsI l x y).1 ≤ 7) ∧ (-1 ≤ (pairsI l x y).2 ∧ (pairsI l x y).2 ≤ 7)
  | [], x, y, hx, hy => ⟨hx, hy⟩
  | [_], x, y, hx, hy => ⟨hx, hy⟩
  | a :: b :: r, x, y, hx, hy => by
    unfold pairsI
    split
    · exact pairsI_rng r _ _ (oneI_rng b) hy
    · exact pairsI_rng r _ _ hx (oneI_rng b)
theorem commitS_rng : ∀ (l : List S) (x y : Int) (p : Int × Int), (-1 ≤ x ∧ x ≤ 7) → (-1 ≤ y ∧ y ≤ 7) → commitS l x y = some p → (-1 ≤ p.1 ∧ p.1 ≤ 7) ∧ (-1 ≤ p.2 ∧ p.2 ≤ 7)
  | [], x, y, p, hx, hy, h => by cases h; exact ⟨hx, hy⟩
  | [_], x, y, p, hx, hy, h => by cases h
  | a :: b :: r, x, y, p, hx, hy, h => by
    unfold commitS at h
    split at h
    · exact commitS_rng r _ _ p (letS_rng b) hy h
    · split at h
      · exact commitS_rng r _ _ p hx (letS_rng b) h
      · cases h
theorem spl_ne (s a : S) : spl a s ≠ [] := fun h => by
  have := spl_len s a
  rw [h] at this; simp at this
theorem txt_pos {e : Event} (h : txt e ≠ []) (hk : e.kind = 2 ∨ e.kind = 3 ∨ e.kind = 6) : 0 ≤ e.pos ∧ e.pos ≤ 99 := by
  unfold txt at h
  split at h
  · exact absurd rfl h
  · have n1 : ¬ e.kind = 1 := by omega
    have n4 : ¬ e.kind = 4 := by omega
    have n5 : ¬ e.kind = 5 := by omega
    rw [if_neg n1, if_neg n4, if_neg n5] at h
    split at h
    · assumption
    · exact absurd rfl h
theorem txt_fr {e : Event} (h : txt e ≠ []) (hk : e.kind = 5) : frT e.text = true := by
  unfold txt at h
  split at h
  · exact absurd rfl h
  · have n1 : ¬ e.kind = 1 := by omega
    have n4 : ¬ e.kind = 4 := by omega
    rw [if_neg n1, if_neg n4] at h
    split at h
    · assumption
    · exact absurd rfl h
theorem txt_who {e : Event} (h : txt e ≠ []) : isW e.who = true := by
  unfold txt at h
  split at h
  · exact absurd rfl h
  · rename_i h'; simpa using h'
theorem txt_kind {e : Event} (h : txt e ≠ []) : 1 ≤ e.kind ∧ e.kind ≤ 6 := by
  unfold txt at h
  split at h
  · exact absurd rfl h
  · split at h
    · omega
    · split at h
      · omega
      · split at h
        · omega
        · split at h
          · omega
          · exact absurd rfl h
theorem kindI_rng (s : S) : 0 ≤ kindI s ∧ kindI s ≤ 6 := by
  unfold kindI
  repeat' split
  all_goals omega
theorem spl_two {s w0 w1 : S} {rest : List S} (h : spl [] s = w0 :: w1 :: rest) : s ≠ [] := fun e => by
  subst e
  simp [spl] at h
theorem dskI_can {s : S} {e : Event} (h : dskI s = some e) : can e ∧ txt e = s ∧ s.length ≤ 30 := by
  unfold dskI at h
  split at h
  case h_2 => cases h
  rename_i w0 w1 rest hs
  split at h
  · cases h
  rename_i hc
  split at h
  case isFalse => cases h
  rename_i ht
  cases h
  have hne : txt (rawI w0 w1 rest) ≠ [] := by rw [ht]; exact spl_two hs
  refine ⟨⟨txt_who hne, ?_⟩, ht, by omega⟩
  have hk := kindI_rng w0
  have hp := txt_pos hne
  have hf := txt_fr hne
  revert hp hf
  unfold rawI
  simp only
  split
  · intro _ _
    have hr := pairsI_rng rest (-1) (-1) (by omega) (by omega)
    exact .inl ⟨rfl, hr.1, hr.2, rfl, rfl⟩
  · split
    · rename_i h1
      intro hp _
      exact .inr (.inl ⟨h1, rfl, rfl, hp h1, rfl⟩)
    · split
      · rename_i h1
        intro _ hf
        exact .inr (.inr (.inr ⟨h1, rfl, rfl, rfl, hf h1⟩))
      · intro _ _
        exact .inr (.inr (.inl ⟨(by show kindI w0 = 4; omega), rfl, rfl, rfl, rfl⟩))
theorem dskS_can {s : S} {e : Event} (h : dskS s = some e) : can e ∧ txt e = s ∧ s.length ≤ 30 := by
  unfold dskS at h
  split at h
  case h_2 => cases h
  rename_i w0 w1 rest hs
  split at h
  · cases h
  rename_i hc
  split at h
  case h_2 => cases h
  rename_i e' hr
  split at h
  case isFalse => cases h
  rename_i ht
  cases h
  have hne : txt e ≠ [] := by rw [ht]; exact spl_two hs
  refine ⟨⟨txt_who hne, ?_⟩, ht, by omega⟩
  have hk := txt_kind hne
  have hp := txt_pos hne
  have hf := txt_fr hne
  unfold rawS at hr
  split at hr
  · cases hr
  split at hr
  · split at hr
    case h_2 => cases hr
    rename_i x y hq
    cases hr
    have hr := commitS_rng rest (-1) (-1) _ (by omega) (by omega) hq
    exact .inl ⟨rfl, hr.1, hr.2, rfl, rfl⟩
  split at hr
  · split at hr
    case isFalse => cases hr
    cases hr
    exact .inr (.inr (.inl ⟨rfl, rfl, rfl, rfl, rfl⟩))
  split at hr
  · split at hr
    case h_2 => cases hr
    cases hr
    exact .inr (.inr (.inr ⟨rfl, rfl, rfl, rfl, hf rfl⟩))
  split at hr
  · split at hr
    case h_2 => cases hr
    rename_i a
    cases hr
    have h6 : (if w0 = wHear then (2 : Int) else if w0 = wJoin then 3 else 6) = 2 ∨ (if w0 = wHear then (2 : Int) else if w0 = wJoin then 3 else 6) = 3 ∨ (if w0 = wHear then (2 : Int) else if w0 = wJoin then 3 else 6) = 6 := by
      split
      · exact .inl rfl
      · split
        · exact .inr (.inl rfl)
        · exact .inr (.inr rfl)
    exact .inr (.inl ⟨h6, rfl, rfl, hp h6, rfl⟩)
  · cases hr
    simp only at hk
    omega
/-! back from the line -/
def both (e : Event) : Prop := (txt e).length ≤ 30 → dskI (txt e) = some e ∧ dskS (txt e) = some e
theorem ev_eq {a b : Event} : (a.kind = b.kind ∧ a.who = b.who ∧ a.add = b.add ∧ a.remove = b.remove ∧ a.pos = b.pos ∧ a.text = b.text) ↔ a = b := by
  cases a; cases b
  rw [Event.mk.injEq]
instance evDec : DecidableEq Event := fun _ _ => decidable_of_iff _ ev_eq
instance bothDec (e : Event) : Decidable (both e) := by unfold both; infer_instance
set_option maxRecDepth 100000 in
theorem back_steal : ∀ w : Fin 8, both ⟨4, (w.val : Int), 0, 0, 0, []⟩ := by decide +kernel
set_option maxRecDepth 100000 in
theorem back_commit : ∀ w : Fin 8, ∀ a : Fin 9, ∀ r : Fin 9, both ⟨1, (w.val : Int), (a.val : Int) - 1, (r.val : Int) - 1, 0, []⟩ := by decide +kernel
set_option maxRecDepth 100000 in
theorem back_hear : ∀ w : Fin 8, ∀ p : Fin 100, both ⟨2, (w.val : Int), 0, 0, (p.val : Int), []⟩ ∧ both ⟨3, (w.val : Int), 0, 0, (p.val : Int), []⟩ ∧ both ⟨6, (w.val : Int), 0, 0, (p.val : Int), []⟩ := by decide +kernel
theorem low_no : ∀ {s : S}, low s = true → 32 ∉ s
  | [], _ => by simp
  | c :: r, h => by
    unfold low at h
    simp only [Bool.and_eq_true, decide_eq_true_eq] at h
    intro hm
    rcases List.mem_cons.1 hm with e | e
    · subst e; simp at h
    · exact low_no h.2.2 e
theorem ltr_no : ∀ w : Fin 8, (32 : UInt8) ∉ ltr (w.val : Int) ∧ oneI (ltr (w.val : Int)) = w.val ∧ letS (ltr (w.val : Int)) = w.val ∧ isW (w.val : Int) = true := by decide +kernel
theorem back_say (w : Fin 8) (t : S) (ht : frT t = true) : both ⟨5, (w.val : Int), 0, 0, 0, t⟩ := by
  intro hl
  obtain ⟨h1, h2, h3, h4⟩ := ltr_no w
  have htl : low t = true := by unfold frT at ht; simp only [Bool.and_eq_true] at ht; exact ht.2
  have e0 : txt ⟨5, (w.val : Int), 0, 0, 0, t⟩ = wSay ++ 32 :: (ltr (w.val : Int) ++ 32 :: t) := by
    unfold txt
    simp [h4, ht]
  have e1 : spl [] (wSay ++ 32 :: (ltr (w.val : Int) ++ 32 :: t)) = [wSay, ltr (w.val : Int), t] := by
    rw [spl_word wSay [] _ (by decide), spl_word _ [] _ h1, spl_last t [] (low_no htl)]; rfl
  have hI : rawI wSay (ltr (w.val : Int)) [t] = ⟨5, (w.val : Int), 0, 0, 0, t⟩ := by
    unfold rawI
    have : kindI wSay = 5 := by decide
    simp [this, h2]
  have hS : rawS wSay (ltr (w.val : Int)) [t] = some ⟨5, (w.val : Int), 0, 0, 0, t⟩ := by
    unfold rawS
    rw [if_neg (by omega), if_neg (by decide), if_neg (by decide), if_pos rfl, h3]
  rw [e0] at hl ⊢
  constructor
  · unfold dskI
    rw [e1]
    simp only
    have h5 : kindI wSay = 5 := by decide
    rw [if_neg (by rw [h5]; omega), hI, if_pos e0]
  · unfold dskS
    rw [e1]
    simp only
    rw [if_neg (by omega), hS]
    simp only
    rw [if_pos e0]
theorem fin_of {n : Nat} {w : Int} (h0 : 0 ≤ w) (h1 : w < n) : ∃ k : Fin n, (k.val : Int) = w := ⟨⟨w.toNat, by omega⟩, by simp; omega⟩
theorem back {e : Event} (h : can e) : both e := by
  obtain ⟨k, w, a, r, p, t⟩ := e
  obtain ⟨hw, h⟩ := h
  rw [isW_iff] at hw
  simp only at hw h
  obtain ⟨w, rfl⟩ := fin_of (n := 8) hw.1 (by omega)
  rcases h with ⟨rfl, ha, hr, rfl, rfl⟩ | ⟨hk, rfl, rfl, hp, rfl⟩ | ⟨rfl, rfl, rfl, rfl, rfl⟩ | ⟨rfl, rfl, rfl, rfl, ht⟩
  · obtain ⟨a', ea⟩ := fin_of (n := 9) (w := a + 1) (by omega) (by omega)
    obtain ⟨r', er⟩ := fin_of (n := 9) (w := r + 1) (by omega) (by omega)
    have := back_commit w a' r'
    rw [ea, er] at this
    simpa using this
  · obtain ⟨p', rfl⟩ := fin_of (n := 100) hp.1 (by omega)
    obtain ⟨h2, h3, h6⟩ := back_hear w p'
    rcases hk with rfl | rfl | rfl
    · exact h2
    · exact h3
    · exact h6
  · exact back_steal w
  · exact back_say w t ht
/-- both read alike -/
theorem dsk_same (s : S) : dskI s = dskS s := by
  cases hI : dskI s with
  | some e =>
    obtain ⟨hc, ht, hl⟩ := dskI_can hI
    have := (back hc (by rw [ht]; exact hl)).2
    rw [ht] at this
    exact this.symm
  | none =>
    cases hS : dskS s with
    | none => rfl
    | some e =>
      obtain ⟨hc, ht, hl⟩ := dskS_can hS
      have := (back hc (by rw [ht]; exact hl)).1
      rw [ht, hI] at this
      cases this
end Kw
