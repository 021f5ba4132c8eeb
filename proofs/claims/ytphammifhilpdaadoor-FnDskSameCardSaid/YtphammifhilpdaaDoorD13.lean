import Derived.Test.YtphammifhilpdaaDoorD12
namespace Kw
set_option linter.unusedVariables false
set_option linter.unusedSimpArgs false
set_option linter.unusedSectionVars false
/-! secrets -/
def digit (n : Nat) : UInt8 := (48 + n).toUInt8
def plain (n : Nat) : S := if h : 9 < n then plain (n / 10) ++ [digit (n % 10)] else [digit n]
def letter (w : Nat) : UInt8 := (65 + w).toUInt8
def whoS (w : Int) : S := [letter w.toNat]
def isWho (w : Int) : Prop := 0 ≤ w ∧ w ≤ 7
instance (w : Int) : Decidable (isWho w) := inferInstanceAs (Decidable (_ ∧ _))
def makNew (w n : Int) : S := if isWho w ∧ 1 ≤ n ∧ n ≤ 99 then whoS w ++ plain n.toNat ++ [59] else []
inductive Sec where
  | new (w n : Nat)
  | next (t : Sec)
  | key (t : Sec)
  | epoch (a b : Sec)
  | say (w : Nat) (t : Sec)
  | room (n : Nat) (t : Sec)
  deriving DecidableEq, Inhabited
def Sec.str : Sec → S
  | .new w n => letter w :: (plain n ++ [59])
  | .next t => 110 :: t.str
  | .key t => 107 :: t.str
  | .epoch a b => 101 :: (a.str ++ b.str)
  | .say w t => 109 :: letter w :: t.str
  | .room n t => 114 :: digit n :: t.str
def Sec.wf : Sec → Prop
  | .new w n => w ≤ 7 ∧ 1 ≤ n ∧ n ≤ 99
  | .next t => t.wf
  | .key t => t.wf
  | .epoch a b => a.wf ∧ b.wf
  | .say w t => w ≤ 7 ∧ t.wf
  | .room n t => 1 ≤ n ∧ n ≤ 9 ∧ t.wf
def pFresh : S → Option (Sec × S)
  | c :: d :: t => if (65 ≤ c.toNat ∧ c.toNat ≤ 72) ∧ 49 ≤ d.toNat ∧ d.toNat ≤ 57 then (match t with
      | [] => none
      | e :: r => if e = 59 then some (.new (c.toNat - 65) (d.toNat - 48), r) else if 48 ≤ e.toNat ∧ e.toNat ≤ 57 then (match r with
          | [] => none
          | f :: r => if f = 59 then some (.new (c.toNat - 65) ((d.toNat - 48) * 10 + (e.toNat - 48)), r) else none)
        else none)
      else none
  | _ => none
def parse : Nat → S → Option (Sec × S)
  | 0, _ => none
  | _ + 1, [] => none
  | n + 1, c :: t =>
    if c = 110 then (match parse n t with | some (x, r) => some (.next x, r) | none => none)
    else if c = 107 then (match parse n t with | some (x, r) => some (.key x, r) | none => none)
    else if c = 109 then (match t with
      | [] => none
      | w :: t => if 65 ≤ w.toNat ∧ w.toNat ≤ 72 then (match parse n t with | some (x, r) => some (.say (w.toNat - 65) x, r) | none => none) else none)
    else if c = 114 then (match t with
      | [] => none
      | w :: t => if 49 ≤ w.toNat ∧ w.toNat ≤ 57 then (match parse n t with | some (x, r) => some (.room (w.toNat - 48) x, r) | none => none) else none)
    else if c = 101 then (match parse n t with
      | some (x, r) => (match parse n r with | some (y, r) => some (.epoch x y, r) | none => none)
      | none => none)
    else pFresh (c :: t)
theorem letter_nat {w : Nat} (h : w ≤ 7) : (letter w).toNat = 65 + w := by
  unfold letter
  rw [UInt8.toNat_ofNat']
  omega
theorem digit_nat {n : Nat} (h : n ≤ 9) : (digit n).toNat = 48 + n := by
  unfold digit
  rw [UInt8.toNat_ofNat']
  omega
theorem letter_of {c : UInt8} (h1 : 65 ≤ c.toNat) (h2 : c.toNat ≤ 72) : letter (c.toNat - 65) = c := by
  apply UInt8.toNat_inj.1
  rw [letter_nat (by omega)]; omega
theorem digit_of {c : UInt8} (h1 : 48 ≤ c.toNat) (h2 : c.toNat ≤ 57) : digit (c.toNat - 48) = c := by
  apply UInt8.toNat_inj.1
  rw [digit_nat (by omega)]; omega
theorem plain1 {n : Nat} (h : n ≤ 9) : plain n = [digit n] := by rw [plain, dif_neg (by omega)]
theorem plain2 {n : Nat} (h : 9 < n) (h' : n ≤ 99) : plain n = [digit (n / 10), digit (n % 10)] := by
  rw [plain, dif_pos h, plain1 (by omega)]; rfl
theorem pFresh_sound {s : S} {t : Sec} {r : S} (h : pFresh s = some (t, r)) : t.wf ∧ s = t.str ++ r := by
  unfold pFresh at h
  split at h
  · rename_i c d u
    split at h
    · rename_i hc
      split at h
      · cases h
      · rename_i e r'
        split at h
        · rename_i he
          cases h
          refine ⟨⟨by omega, by omega, by omega⟩, ?_⟩
          show _ = letter _ :: (plain _ ++ [59]) ++ _
          rw [plain1 (by omega), letter_of (by omega) (by omega), digit_of (by omega) (by omega), he]; rfl
        · split at h
          · rename_i he
            split at h
            · cases h
            · rename_i f r''
              split at h
              · rename_i hf
                cases h
                refine ⟨⟨by omega, by omega, by omega⟩, ?_⟩
                show _ = letter _ :: (plain _ ++ [59]) ++ _
                have e1 : ((d.toNat - 48) * 10 + (e.toNat - 48)) / 10 = d.toNat - 48 := by omega
                have e2 : ((d.toNat - 48) * 10 + (e.toNat - 48)) % 10 = e.toNat - 48 := by omega
                rw [plain2 (by omega) (by omega), e1, e2, letter_of (by omega) (by omega), digit_of (by omega) (by omega), digit_of (by omega) (by omega), hf]; rfl
              · cases h
          · cases h
    · cases h
  · cases h
theorem parse_sound : ∀ {n : Nat} {s : S} {t : Sec} {r : S}, parse n s = some (t, r) → t.wf ∧ s = t.str ++ r
  | 0, _, _, _, h => by simp [parse] at h
  | n + 1, [], _, _, h => by simp [parse] at h
  | n + 1, c :: u, t, r, h => by
    unfold parse at h
    split at h
    · rename_i hc
      split at h
      · rename_i x r' e
        cases h
        obtain ⟨h1, h2⟩ := parse_sound e
        exact ⟨h1, by rw [hc, h2]; rfl⟩
      · cases h
    split at h
    · rename_i hc
      split at h
      · rename_i x r' e
        cases h
        obtain ⟨h1, h2⟩ := parse_sound e
        exact ⟨h1, by rw [hc, h2]; rfl⟩
      · cases h
    split at h
    · rename_i hc
      split at h
      · cases h
      · rename_i w v
        split at h
        · rename_i hw
          split at h
          · rename_i x r' e
            cases h
            obtain ⟨h1, h2⟩ := parse_sound e
            refine ⟨⟨by omega, h1⟩, ?_⟩
            show _ = 109 :: letter _ :: x.str ++ _
            rw [letter_of hw.1 hw.2, hc, h2]; rfl
          · cases h
        · cases h
    split at h
    · rename_i hc
      split at h
      · cases h
      · rename_i w v
        split at h
        · rename_i hw
          split at h
          · rename_i x r' e
            cases h
            obtain ⟨h1, h2⟩ := parse_sound e
            refine ⟨⟨by omega, by omega, h1⟩, ?_⟩
            show _ = 114 :: digit _ :: x.str ++ _
            rw [digit_of (by omega) (by omega), hc, h2]; rfl
          · cases h
        · cases h
    split at h
    · rename_i hc
      split at h
      · rename_i x r' e
        split at h
        · rename_i y r'' e'
          cases h
          obtain ⟨h1, h2⟩ := parse_sound e
          obtain ⟨h3, h4⟩ := parse_sound e'
          refine ⟨⟨h1, h3⟩, ?_⟩
          show _ = 101 :: (x.str ++ y.str) ++ _
          rw [hc, h2, h4]; simp
        · cases h
      · cases h
    · exact pFresh_sound h
theorem letter_ne {w : Nat} (h : w ≤ 7) : letter w ≠ 110 ∧ letter w ≠ 107 ∧ letter w ≠ 109 ∧ letter w ≠ 114 ∧ letter w ≠ 101 := by
  have := letter_nat h
  refine ⟨?_, ?_, ?_, ?_, ?_⟩ <;> intro e <;> rw [e] at this <;> simp at this <;> omega
theorem parse_str : ∀ (t : Sec) (r : S) (n : Nat), t.wf → t.str.length < n → parse n (t.str ++ r) = some (t, r)
  | .new w m, r, 0, _, hn => by omega
  | .new w m, r, n + 1, ⟨hw, h1, h2⟩, hn => by
    obtain ⟨a1, a2, a3, a4, a5⟩ := letter_ne hw
    show parse (n + 1) (letter w :: (plain m ++ [59] ++ r)) = _
    unfold parse
    rw [if_neg a1, if_neg a2, if_neg a3, if_neg a4, if_neg a5]
    have hl := letter_nat hw
    by_cases h9 : m ≤ 9
    · have hd := digit_nat h9
      rw [plain1 h9]
      show pFresh (letter w :: digit m :: 59 :: r) = _
      simp only [pFresh]
      rw [if_pos (by omega), if_pos trivial, hl, hd]
      simp
    · have hd := @digit_nat (m / 10) (by omega)
      have hd' := @digit_nat (m % 10) (by omega)
      rw [plain2 (by omega) h2]
      show pFresh (letter w :: digit (m / 10) :: digit (m % 10) :: 59 :: r) = _
      have hne : digit (m % 10) ≠ 59 := fun e => by rw [e] at hd'; simp at hd'; omega
      simp only [pFresh]
      rw [if_pos (by omega), if_neg hne, if_pos (by omega), if_pos trivial, hl, hd, hd']
      have : (48 + m / 10 - 48) * 10 + (48 + m % 10 - 48) = m := by omega
      rw [this]; simp
  | .next t, r, n + 1, hw, hn => by
    show parse (n + 1) (110 :: (t.str ++ r)) = _
    unfold parse
    rw [if_pos rfl, parse_str t r n hw (by simp [Sec.str] at hn; omega)]
  | .key t, r, n + 1, hw, hn => by
    show parse (n + 1) (107 :: (t.str ++ r)) = _
    unfold parse
    rw [if_neg (by decide), if_pos rfl, parse_str t r n hw (by simp [Sec.str] at hn; omega)]
  | .epoch a b, r, n + 1, hw, hn => by
    show parse (n + 1) (101 :: (a.str ++ b.str ++ r)) = _
    unfold parse
    rw [if_neg (by decide), if_neg (by decide), if_neg (by decide), if_neg (by decide), if_pos rfl, List.append_assoc, parse_str a _ n hw.1 (by simp [Sec.str] at hn; omega)]
    simp only
    rw [parse_str b r n hw.2 (by simp [Sec.str] at hn; omega)]
  | .say w t, r, n + 1, hw, hn => by
    show parse (n + 1) (109 :: letter w :: (t.str ++ r)) = _
    have hl := letter_nat hw.1
    have := hw.1
    unfold parse
    rw [if_neg (by decide), if_neg (by decide), if_pos rfl]
    simp only
    rw [if_pos (by omega), parse_str t r n hw.2 (by simp [Sec.str] at hn; omega), hl]
    simp
  | .room m t, r, n + 1, hw, hn => by
    show parse (n + 1) (114 :: digit m :: (t.str ++ r)) = _
    have hl := digit_nat hw.2.1
    have := hw.1
    have := hw.2.1
    unfold parse
    rw [if_neg (by decide), if_neg (by decide), if_neg (by decide), if_pos rfl]
    simp only
    rw [if_pos (by omega), parse_str t r n hw.2.2 (by simp [Sec.str] at hn; omega), hl]
    simp
  | .next t, r, 0, _, hn => by omega
  | .key t, r, 0, _, hn => by omega
  | .epoch a b, r, 0, _, hn => by omega
  | .say w t, r, 0, _, hn => by omega
  | .room m t, r, 0, _, hn => by omega
theorem Sec.str_pos (t : Sec) : 0 < t.str.length := by cases t <;> simp [Sec.str]
/-- the fuel makes no difference once it is more than the text -/
theorem parse_fuel {n m : Nat} {s : S} (h1 : s.length < n) (h2 : s.length < m) : parse n s = parse m s := by
  cases e : parse n s with
  | some x =>
    obtain ⟨t, r⟩ := x
    obtain ⟨hw, hs⟩ := parse_sound e
    subst hs
    rw [parse_str t r m hw (by simp at h2; omega)]
  | none =>
    cases e' : parse m s with
    | none => rfl
    | some x =>
      obtain ⟨t, r⟩ := x
      obtain ⟨hw, hs⟩ := parse_sound e'
      subst hs
      rw [parse_str t r n hw (by simp at h1; omega)] at e
      cases e
def pars (s : S) : Option (Sec × S) := parse (s.length + 1) s
theorem pars_eq {n : Nat} {s : S} (h : s.length < n) : parse n s = pars s := parse_fuel h (by omega)
theorem pars_sound {s : S} {t : Sec} {r : S} (h : pars s = some (t, r)) : t.wf ∧ s = t.str ++ r := parse_sound h
theorem pars_str {t : Sec} (r : S) (h : t.wf) : pars (t.str ++ r) = some (t, r) := parse_str t r _ h (by simp; omega)
def pnt (s : S) : Option Sec := match pars s with | some (t, []) => some t | _ => none
theorem pnt_some {s : S} {t : Sec} : pnt s = some t ↔ t.wf ∧ s = t.str := by
  unfold pnt
  constructor
  · intro h
    split at h
    · rename_i t' e; cases h
      obtain ⟨h1, h2⟩ := pars_sound e
      exact ⟨h1, by simpa using h2⟩
    · cases h
  · rintro ⟨hw, rfl⟩
    have := pars_str [] hw
    rw [List.append_nil] at this
    rw [this]
/-- the secret that a text names -/
def sec (s : S) : Option Sec := if s.length ≤ 300 then pnt s else none
theorem sec_some {s : S} {t : Sec} : sec s = some t ↔ t.wf ∧ s = t.str ∧ s.length ≤ 300 := by
  unfold sec
  split
  · rename_i h; rw [pnt_some]; exact ⟨fun ⟨a, b⟩ => ⟨a, b, h⟩, fun ⟨a, b, _⟩ => ⟨a, b⟩⟩
  · rename_i h; exact ⟨fun e => (by cases e), fun ⟨_, _, e⟩ => absurd e h⟩
theorem sec_str {t : Sec} (h : t.wf) (hl : t.str.length ≤ 300) : sec t.str = some t := sec_some.2 ⟨h, rfl, hl⟩
theorem Sec.str_inj {t u : Sec} (ht : t.wf) (hu : u.wf) (h : t.str = u.str) : t = u := by
  have h1 := pnt_some.2 ⟨ht, rfl⟩
  rw [h, pnt_some.2 ⟨hu, rfl⟩] at h1
  exact (Option.some.inj h1).symm
def secOk (s : S) : Bool := (sec s).isSome
theorem secOk_iff {s : S} : secOk s = true ↔ ∃ t : Sec, t.wf ∧ s = t.str ∧ s.length ≤ 300 := by
  unfold secOk
  rw [Option.isSome_iff_exists]
  exact ⟨fun ⟨t, h⟩ => ⟨t, sec_some.1 h⟩, fun ⟨t, h⟩ => ⟨t, sec_some.2 h⟩⟩
def mk1 (p s : S) : S := if secOk s = true ∧ p.length + s.length ≤ 300 then p ++ s else []
def makNext (s : S) : S := mk1 [110] s
def makKey (s : S) : S := mk1 [107] s
def makEpoch (a b : S) : S := if (secOk a = true ∧ secOk b = true) ∧ 1 + a.length + b.length ≤ 300 then 101 :: (a ++ b) else []
def makSay (s : S) (w : Int) : S := if isWho w then mk1 (109 :: whoS w) s else []
def makRoom (s : S) (n : Int) : S := if 1 ≤ n ∧ n ≤ 9 then mk1 (114 :: plain n.toNat) s else []
structure How where
  op : Int
  who : Int
  n : Int
  a : S
  b : S
  deriving DecidableEq, Inhabited
def Sec.how : Sec → How
  | .new w n => ⟨1, w, n, [], []⟩
  | .next t => ⟨2, 0, 0, t.str, []⟩
  | .key t => ⟨3, 0, 0, t.str, []⟩
  | .epoch a b => ⟨4, 0, 0, a.str, b.str⟩
  | .say w t => ⟨5, w, 0, t.str, []⟩
  | .room n t => ⟨6, 0, n, t.str, []⟩
def secMade (s : S) : How := match sec s with | some t => t.how | none => ⟨0, 0, 0, [], []⟩
def isKey (s : S) : Bool := decide ((secMade s).op = 3)
theorem secMade_op {s : S} : (secMade s).op = 0 ↔ secOk s = false := by
  unfold secMade secOk
  cases sec s with
  | none => simp
  | some t => cases t <;> simp [Sec.how]
end Kw
