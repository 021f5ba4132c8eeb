import Derived.Test.YtphammifhilpdaaGreatDoorV24
import Derived.Test.YtphammifhilpdaaGreatDoorV14
import Derived.Test.YtphammifhilpdaaGreatDoorV15
import Derived.Test.YtphammifhilpdaaGreatDoorV07
namespace Kw
open Go Go.Proofs
structure WJ (w : World) : Prop extends WI w where
  waitsLog : w.waits.length ≤ w.log.length
  nameL : ∀ c ∈ w.log, c.name.length ≤ 300
theorem pig : ∀ (l p : List Int), l.Nodup → (∀ x ∈ l, x ∈ p) → l.length ≤ p.length
  | [], _, _, _ => Nat.zero_le _
  | x :: l, p, h, hs => by
    have hx := hs x (by simp)
    have h1 := List.nodup_cons.1 h
    have h2 := pig l (p.erase x) h1.2 (fun y hy => (List.mem_erase_of_ne (fun e => h1.1 (by rw [← e]; exact hy))).2 (hs y (by simp [hy])))
    rw [List.length_erase_of_mem hx] at h2
    have := List.length_pos_of_mem hx
    simp; omega
theorem fits_parts {m : Member} (h : fitsAll m = true) {k : Nat} (hk : k < m.own.length) : (m.own[k]).node ∈ pathOf m.who ∧ secOk (m.own[k]).sec = true ∧ ownOf (m.own.take k) (m.own[k]).node = [] := by
  have := List.all_eq_true.1 h k (List.mem_range.2 hk)
  unfold fitsAt at this
  rw [ix_nat m.own k hk] at this
  simp only [Bool.and_eq_true, decide_eq_true_eq] at this
  exact ⟨this.1, this.2.1, this.2.2.2.2⟩
theorem own_len {m : Member} (h : fitsAll m = true) : m.own.length ≤ 15 := by
  have h1 : (m.own.map (·.node)).Nodup := by
    show List.Pairwise _ _
    rw [List.pairwise_iff_getElem]
    intro i j hi hj hij e
    simp only [List.length_map] at hi hj
    simp only [List.getElem_map] at e
    have h2 := (fits_parts h hj).2.2
    unfold ownOf at h2
    split at h2
    · rename_i o ho
      obtain ⟨k, hk, hok⟩ := List.mem_iff_getElem.1 (List.mem_of_mem_take (List.mem_of_find?_eq_some ho))
      have h3 := secOk_len (fits_parts h hk).2.1
      rw [hok, h2] at h3
      simp at h3
    · rename_i ho
      have := List.find?_eq_none.1 ho (m.own[i]) (List.mem_take_iff_getElem.2 ⟨i, by omega, rfl⟩)
      simp [e] at this
  have h2 := pig _ _ h1 (fun x hx => by
    obtain ⟨o, ho, e⟩ := List.mem_map.1 hx
    obtain ⟨k, hk, hok⟩ := List.mem_iff_getElem.1 ho
    rw [← e, ← hok]; exact (fits_parts h hk).1)
  rw [List.length_map] at h2
  have := pathOf_len m.who
  omega
def SeatOk (m : Member) : Prop := (m.inn = true → m.keys.length = 15) ∧ (m.inn = false → m.keys = []) ∧ m.own.length ≤ 30 ∧ m.tag.length ≤ 600 ∧ m.keys.length ≤ 15
theorem seatOk_no : SeatOk noMember := ⟨fun h => (by cases h), fun _ => rfl, Nat.zero_le _, Nat.zero_le _, Nat.zero_le _⟩
theorem secPath_le (n : Int) (s : S) : (secPath n s).length ≤ 15 := by
  rw [secPath_len]; have := treUp_len n; omega
theorem seatOk_in {m : Member} (hi : m.inn = true) (hk : m.keys.length = 15) (ho : m.own.length ≤ 30) (ht : m.tag.length ≤ 600) : SeatOk m :=
  ⟨fun _ => hk, fun h => (by rw [hi] at h; cases h), ho, ht, by omega⟩
theorem memCommit_ok {m m' : Member} {c : Commit} {f : S} {a r : Int} {lf ky : S} (h : memCommit m f a r lf ky = some (m', c)) :
    SeatOk m' ∧ (c.tag.length ≤ 300 ∧ c.keys.length ≤ 1000 ∧ c.boxes.length ≤ 1000) ∧ c.name.length ≤ 300 := by
  unfold memCommit at h
  split at h
  · rename_i hc
    cases h
    unfold commitOk at hc
    simp only [Bool.and_eq_true, decide_eq_true_eq] at hc
    obtain ⟨h1, h2, h3, h4, h5⟩ := hc
    have hi : m.inn = true := by
      unfold may at h3; simp only [Bool.and_eq_true] at h3; exact h3.1
    obtain ⟨b1, b2, b3, b4, b5, b6, b7⟩ := memOk_in h1 hi
    have hk := treOk_len b2
    have hk' : (setK (baseT m.keys a r lf) m.who f).length = 15 := by rw [setK_len, baseT_len, hk]
    refine ⟨seatOk_in rfl hk' (by show (secPath _ _).length ≤ 30; have := secPath_le (treLeaf m.who) f; omega) (by show (m.tag ++ f).length ≤ 600; simp; omega), ⟨by show m.tag.length ≤ 300; omega, by show (setK _ _ _).length ≤ 1000; omega, ?_⟩, by show f.length ≤ 300; omega⟩
    show (boxesGo _ _ _).length ≤ 1000
    have hb : ∀ (ks : List S) (add : Int) (own : List Own), (boxesGo ks add own).length ≤ 32 * own.length := by
      intro ks add own
      induction own with
      | nil => simp [boxesGo]
      | cons x l ih =>
        cases l with
        | nil => simp [boxesGo]
        | cons y l =>
          have h1 := boxesAt_len ks add y.sec (cover ks (treSide x.node))
          have h2 := coverN_len ks 5 (treSide x.node).toNat
          simp only [boxesGo, List.length_append, List.length_cons] at ih ⊢
          unfold cover at h1
          unfold cover
          omega
    have := hb (baseT m.keys a r lf) a (secPath (treLeaf m.who) f)
    have := secPath_le (treLeaf m.who) f
    omega
  · cases h
theorem memHear_ok {m : Member} {c : Commit} (hm : SeatOk m) : SeatOk (memHear m c).1 := by
  unfold memHear
  split
  · rename_i h
    split
    · rename_i ht
      split
      · exact seatOk_no
      · split
        · unfold hearPair
          simp only
          split
          · exact hm
          · split
            · have hi : m.inn = true := by
                unfold takes at ht; simp only [Bool.and_eq_true] at ht; exact ht.1
              obtain ⟨b1, b2, b3, b4, b5, b6, b7⟩ := memOk_in h.1 hi
              obtain ⟨c1, c2, c3, c4, c5, c6, c7⟩ := cmtOk_parts h.2
              have := own_len b3
              refine seatOk_in rfl (treOk_len c6) ?_ ?_
              · show (keeps c.keys (under m.own _) ++ secPath _ _).length ≤ 30
                rw [List.length_append]
                have h1 := keeps_len c.keys (under m.own (secPath (treMeet (treLeaf m.who) (treLeaf c.sender)) (findBox m.own c.boxes)))
                have h2 := under_len m.own (secPath (treMeet (treLeaf m.who) (treLeaf c.sender)) (findBox m.own c.boxes))
                have h3 := secPath_le (treMeet (treLeaf m.who) (treLeaf c.sender)) (findBox m.own c.boxes)
                omega
              · show (m.tag ++ c.name).length ≤ 600
                rw [List.length_append]; omega
            · exact hm
        · exact hm
    · exact hm
  · exact seatOk_no
theorem memJoin_ok {w : Int} {leaf key : S} {c : Commit} {m : Member} (h : memJoin w leaf key c = some m) : SeatOk m := by
  unfold memJoin at h
  split at h
  · rename_i hc
    cases h
    obtain ⟨h1, h2, h3, h4, h5, h6, h7, h8, h9⟩ := hc
    obtain ⟨b1, b2, b3, b4, b5, b6, b7⟩ := memOk_in h9 rfl
    have := own_len b3
    exact seatOk_in rfl (treOk_len b2) (by omega) (by omega)
  · cases h
theorem seenGo_len (n top : Int) : ∀ (l : List Int) (d : Bool), (seenGo n top l d).length ≤ l.length + 1
  | [], d => by cases d <;> simp [seenGo]
  | x :: l, d => by
    have h1 := seenGo_len n top l (d || decide (x < n))
    have hd : ∀ l : List Int, (seenGo n top l true).length ≤ l.length := by
      intro l
      induction l with
      | nil => simp [seenGo]
      | cons y l ih => simp only [seenGo, List.length_append, List.length_cons, Bool.true_or]; split <;> split <;> simp_all <;> omega
    simp only [seenGo, List.length_append, List.length_cons]
    by_cases h : d = false ∧ x < n
    · have h2 := hd l
      have e : (d || decide (x < n)) = true := by simp [h.2]
      rw [e, if_pos h]
      split <;> simp <;> omega
    · rw [if_neg h]
      split <;> simp <;> omega
def WinOk (n : Nat) (x : Win) : Prop := (0 ≤ x.top ∧ x.top ≤ 999) ∧ x.seen.length ≤ n + 1
theorem fraOk_n {f : Frame} (h : fraOk f = true) : 1 ≤ f.n ∧ f.n ≤ 999 := by
  unfold fraOk at h
  simp only [Bool.and_eq_true, decide_eq_true_eq] at h
  exact h.1.2.2.2
theorem fraGet_ok {m : Member} {wins x : List Win} {f : Frame} {n : Nat} (h : fraGet m wins f = some x) (hw : wins.length ≤ n ∧ ∀ y ∈ wins, WinOk n y) : x.length ≤ n + 1 ∧ ∀ y ∈ x, WinOk (n + 1) y := by
  unfold fraGet at h
  split at h
  · rename_i hh
    have hf : 1 ≤ f.n ∧ f.n ≤ 999 := by
      unfold hears at hh; simp only [Bool.and_eq_true] at hh; exact fraOk_n hh.2.1
    have hup : ∀ y ∈ wins, WinOk (n + 1) y := fun y hy => ⟨(hw.2 y hy).1, by have := (hw.2 y hy).2; omega⟩
    simp only at h
    split at h
    · cases h
      refine ⟨by simp; omega, fun y hy => ?_⟩
      rcases List.mem_append.1 hy with hy | hy
      · exact hup y hy
      · rw [List.mem_singleton.1 hy]; exact ⟨⟨by show 0 ≤ f.n; omega, hf.2⟩, by simp⟩
    · rename_i hk
      split at h
      · rename_i z hz
        cases h
        refine ⟨by simp; omega, fun y hy => ?_⟩
        rcases List.mem_or_eq_of_mem_set hy with hy | hy
        · exact hup y hy
        · rw [hy]
          rcases winAt_lt wins f.key 0 with h1 | h1
          · omega
          · obtain ⟨g1, g2⟩ := hw.2 _ (ixm wins _ (by omega) (by omega : winAt wins f.key 0 < wins.length))
            unfold winTake at hz
            split at hz
            · cases hz
            · cases hz
              refine ⟨⟨by show 0 ≤ max _ _; omega, by show max _ _ ≤ 999; omega⟩, ?_⟩
              show (seenGo _ _ _ _).length ≤ _
              have := seenGo_len f.n (max (ix wins (winAt wins f.key 0)).top f.n) (ix wins (winAt wins f.key 0)).seen false
              omega
      · cases h
  · cases h
theorem mem_set1 {A : Type} {l : List A} {i : Int} {x y : A} (h : y ∈ set1 l i x) : y ∈ l ∨ y = x := List.mem_or_eq_of_mem_set h
theorem set1_len {A : Type} (l : List A) (i : Int) (x : A) : (set1 l i x).length = l.length := by simp [set1]
/-- one seat anew -/
theorem WJ.seatSet {w : World} (z : WJ w) (i : Int) (m : Member) (hm : SeatOk m) : WJ { w with seats := set1 w.seats i m } :=
  { z with
    seats8 := by show (set1 _ _ _).length = 8; rw [set1_len]; exact z.seats8
    seat := fun y hy => by rcases mem_set1 hy with h | h; exact z.seat y h; rw [h]; exact hm }
theorem WJ.hear {w : World} (z : WJ w) (who pos : Int) (hw : isWho who) : WJ (stepHear w who pos) := by
  unfold stepHear
  simp only
  split
  · exact z.seatSet _ _ (memHear_ok (z.seat _ (ixm w.seats who hw.1 (by rw [z.seats8]; have := hw.2; omega))))
  · exact z
theorem WJ.joinGo {w : World} (z : WJ w) (who pos : Int) : ∀ (l : List Wait) (k : Nat), WJ (joinGo w who pos l k)
  | [], _ => z
  | x :: l, k => by
    unfold Kw.joinGo
    split
    · split
      · rename_i m hm
        have z' := z.seatSet who m (memJoin_ok hm)
        have hl : (w.waits.eraseIdx k).length ≤ w.waits.length := List.Sublist.length_le (List.eraseIdx_sublist _ _)
        exact { z' with
          waitsL := by have := z.waitsL; show (w.waits.eraseIdx k).length ≤ 16; omega
          waitsLog := by have := z.waitsLog; show (w.waits.eraseIdx k).length ≤ w.log.length; omega }
      · exact WJ.joinGo z who pos l (k + 1)
    · exact WJ.joinGo z who pos l (k + 1)
theorem WJ.join {w : World} (z : WJ w) (who pos : Int) : WJ (stepJoin w who pos) := by
  unfold stepJoin
  split
  · exact z
  · exact z.joinGo _ _ _ _
theorem WJ.steal {w : World} (z : WJ w) (who : Int) (hw : isWho who) : WJ (stepSteal w who) := by
  unfold stepSteal
  split
  · exact z
  · rename_i h
    obtain ⟨a1, a2, a3, a4, a5⟩ := z.seat _ (ixm w.seats who hw.1 (by rw [z.seats8]; have := hw.2; omega))
    have hk : (memKnows (ix w.seats who)).length ≤ 31 := by
      unfold memKnows
      split
      · simp; omega
      · simp
    have h1 := z.stolen12
    have h2 := z.spyL
    exact { z with
      stolen12 := by show (w.stolen ++ _).length ≤ 12; simp; omega
      spyL := by show (w.spy ++ _).length ≤ 31 * (w.stolen ++ _).length; simp only [List.length_append, List.length_cons, List.length_nil]; omega }
theorem WJ.say {w : World} (z : WJ w) (who : Int) (x : S) (hw : isWho who) : WJ (stepSay w who x) := by
  unfold stepSay
  split
  · exact z
  · rename_i h
    split
    · obtain ⟨s0, s1⟩ := z.saidR _ (ixm w.said who hw.1 (by rw [z.said8]; have := hw.2; omega))
      have hf := z.frames40
      exact { z with
        frames40 := by show (w.frames ++ _).length ≤ 40; simp; omega
        said8 := by show (set1 _ _ _).length = 8; rw [set1_len]; exact z.said8
        saidR := fun y hy => by rcases mem_set1 hy with h | h; exact z.saidR y h; rw [h]; omega }
    · exact z
theorem WJ.get {w : World} (z : WJ w) (who pos : Int) (hw : isWho who) : WJ (stepGet w who pos) := by
  unfold stepGet
  split
  · exact z
  · rename_i h
    split
    · rename_i x hx
      have ht := z.told320
      have hx' := fraGet_ok hx (z.win _ (ixm w.wins who hw.1 (by rw [z.wins8]; have := hw.2; omega)))
      exact { z with
        told320 := by show (w.told ++ _).length ≤ 320; simp; omega
        wins8 := by show (set1 _ _ _).length = 8; rw [set1_len]; exact z.wins8
        win := fun l hl => by
          show l.length ≤ (w.told ++ _).length ∧ ∀ x ∈ l, _ ∧ _ ≤ (w.told ++ _).length + 1
          simp only [List.length_append, List.length_cons, List.length_nil]
          rcases mem_set1 hl with h | h
          · obtain ⟨b1, b2⟩ := z.win l h
            exact ⟨by omega, fun y hy => ⟨(b2 y hy).1, by have := (b2 y hy).2; omega⟩⟩
          · rw [h]; exact hx' }
    · exact z
theorem WJ.commitEnd {w : World} (z : WJ w) (e : Event) (hw : isWho e.who) (h16 : w.log.length ≠ 16) (h99 : ¬ 99 ≤ ix w.fresh e.who) (ha : -1 ≤ e.add ∧ e.add ≤ 7) (h98 : ¬ (0 ≤ e.add ∧ 98 ≤ ix w.fresh e.add)) (lf ky : S) : WJ (commitEnd w e lf ky) := by
  unfold Kw.commitEnd
  split
  · exact z
  · rename_i m c hc
    obtain ⟨c1, c2, c3⟩ := memCommit_ok hc
    have z' := z.seatSet e.who m c1
    have hl := z.log16
    have hwl := z.waitsLog
    obtain ⟨f0, f1⟩ := z.freshR _ (ixm w.fresh e.who hw.1 (by rw [z.fresh8]; have := hw.2; omega))
    have hf1 : ∀ x ∈ set1 w.fresh e.who (ix w.fresh e.who + 1), 0 ≤ x ∧ x ≤ 99 ∨ x ∈ w.fresh := fun x hx => by
      rcases mem_set1 hx with h | h
      · exact Or.inr h
      · exact Or.inl (by omega)
    have hf2 : ∀ x ∈ set1 w.fresh e.who (ix w.fresh e.who + 1), 0 ≤ x ∧ x ≤ 100 := fun x hx => by
      rcases hf1 x hx with h | h
      · omega
      · exact z.freshR x h
    exact { z' with
      log16 := by show (w.log ++ [c]).length ≤ 16; simp; omega
      cmt := fun y hy => by
        rcases List.mem_append.1 hy with h | h
        · exact z.cmt y h
        · rw [List.mem_singleton.1 h]; exact c2
      nameL := fun y hy => by
        rcases List.mem_append.1 hy with h | h
        · exact z.nameL y h
        · rw [List.mem_singleton.1 h]; exact c3
      waitsL := by
        show (if 0 ≤ e.add then _ else _ : List Wait).length ≤ 16
        split <;> (try simp) <;> omega
      waitsLog := by
        show (if 0 ≤ e.add then _ else _ : List Wait).length ≤ (w.log ++ [c]).length
        split <;> (try simp) <;> omega
      fresh8 := by
        show (if 0 ≤ e.add then _ else _ : List Int).length = 8
        have := z.fresh8
        split <;> simp [set1_len] <;> omega
      freshR := fun y hy => by
        change y ∈ (if 0 ≤ e.add then _ else _ : List Int) at hy
        split at hy
        · rename_i h0
          rcases mem_set1 hy with h | h
          · exact hf2 y h
          · have h8 : e.add < (set1 w.fresh e.who (ix w.fresh e.who + 1)).length := by rw [set1_len, z.fresh8]; omega
            have hb : 0 ≤ ix (set1 w.fresh e.who (ix w.fresh e.who + 1)) e.add ∧ ix (set1 w.fresh e.who (ix w.fresh e.who + 1)) e.add ≤ 98 := by
              by_cases he : e.who = e.add
              · have : ix (set1 w.fresh e.who (ix w.fresh e.who + 1)) e.add = ix w.fresh e.who + 1 := by
                  rw [← he]
                  have hlt : e.who.toNat < w.fresh.length := by rw [z.fresh8]; have := hw.2; omega
                  simp [ix, set1, hlt]
                rw [this]
                rw [← he] at h98
                have := hw.1
                omega
              · have : ix (set1 w.fresh e.who (ix w.fresh e.who + 1)) e.add = ix w.fresh e.add := by
                  have hne : e.who.toNat ≠ e.add.toNat := by have := hw.1; omega
                  simp [ix, set1, List.getElem?_set_ne hne]
                rw [this]
                obtain ⟨g0, g1⟩ := z.freshR _ (ixm w.fresh e.add h0 (by rw [z.fresh8]; omega))
                omega
            omega
        · exact hf2 y hy }
theorem WJ.commit {w : World} (z : WJ w) (e : Event) (hw : isWho e.who) : WJ (stepCommit w e) := by
  unfold stepCommit
  split
  · exact z
  · rename_i h
    have h1 : w.log.length ≠ 16 := fun x => h (Or.inl x)
    have h2 : ¬ 99 ≤ ix w.fresh e.who := fun x => h (Or.inr (Or.inl x))
    have h3 : -1 ≤ e.add ∧ e.add ≤ 7 := Decidable.byContradiction fun x => h (Or.inr (Or.inr (Or.inl x)))
    have h4 : ¬ (0 ≤ e.add ∧ 98 ≤ ix w.fresh e.add) := fun x => h (Or.inr (Or.inr (Or.inr x)))
    split
    · exact z.commitEnd e hw h1 h2 h3 h4 _ _
    · exact z.commitEnd e hw h1 h2 h3 h4 _ _
theorem WJ.step {w : World} (z : WJ w) (e : Event) : WJ (step w e) := by
  unfold Kw.step
  split
  · rename_i hw
    split
    · exact z.commit e hw
    split
    · exact z.steal _ hw
    split
    · exact z.say _ _ hw
    split
    · split
      · exact z.hear _ _ hw
      · exact z
    split
    · split
      · exact z.join _ _
      · exact z
    split
    · split
      · exact z.get _ _ hw
      · exact z
    · exact z
  · exact z
theorem WJ.new {who : Int} (hw : isWho who) : WJ (grpNew who) := by
  unfold grpNew
  rw [if_pos hw]
  have hs : ∀ m ∈ (List.range 8).map (fun (k : Nat) => if (k : Int) = who then memFirst who (makNew who 1) (makNew who 2) else noMember), SeatOk m := by
    intro m hm
    obtain ⟨k, _, rfl⟩ := List.mem_map.1 hm
    split
    · unfold memFirst
      split
      · exact seatOk_in rfl (by show (setK _ _ _).length = 15; rw [setK_len]; rfl) (by show (secPath _ _).length ≤ 30; have := secPath_le (treLeaf who) (makNew who 1); omega) (by simp)
      · exact seatOk_no
    · exact seatOk_no
  exact {
    seats8 := by simp
    fresh8 := by simp
    said8 := by simp
    wins8 := by simp
    log16 := by simp
    waitsL := by simp
    stolen12 := by simp
    spyL := by simp
    frames40 := by simp
    told320 := by simp
    freshR := fun x hx => by obtain ⟨k, _, rfl⟩ := List.mem_map.1 hx; split <;> omega
    saidR := fun x hx => by rw [List.eq_of_mem_replicate hx]; omega
    seat := hs
    cmt := by simp
    win := fun l hl => by rw [List.eq_of_mem_replicate hl]; simp
    waitsLog := by simp
    nameL := by simp }
end Kw
namespace Kw
open Go Go.Proofs
def mix (l : S) (n : Int) : Int := (ix l (n % l.length)).toNat * 131 + (ix l ((n * 7 + 3) % l.length)).toNat * 1117 + n * 29 + n / l.length * 53
def pick (l : S) (n k : Int) : Int := if k < 1 then 0 else if l = [] then 0 else if n < l.length then (ix l n).toNat % k else iXor .i64 (mix l n) (mix l n / 64) % k
theorem iXor_nn {a b : Int} (ha : 0 ≤ a ∧ a < 4611686018427387904) (hb : 0 ≤ b ∧ b < 4611686018427387904) : 0 ≤ iXor .i64 a b := by
  unfold iXor
  obtain ⟨a', rfl⟩ := Int.eq_ofNat_of_zero_le ha.1
  obtain ⟨b', rfl⟩ := Int.eq_ofNat_of_zero_le hb.1
  have h1 : (BitVec.ofInt IntKind.i64.bits (a' : Int) ^^^ BitVec.ofInt IntKind.i64.bits (b' : Int)).toNat = a' ^^^ b' := by
    show (BitVec.ofInt 64 (a' : Int) ^^^ BitVec.ofInt 64 (b' : Int)).toNat = _
    rw [BitVec.toNat_xor, BitVec.ofInt_natCast, BitVec.ofInt_natCast, BitVec.toNat_ofNat, BitVec.toNat_ofNat, Nat.mod_eq_of_lt (by omega), Nat.mod_eq_of_lt (by omega)]
  rw [h1]
  have h2 : a' ^^^ b' < 2 ^ 62 := Nat.xor_lt_two_pow (by omega) (by omega)
  rw [show IntKind.wrap .i64 ((a' ^^^ b' : Nat) : Int) = ((a' ^^^ b' : Nat) : Int) from wrap_i64 (by omega) (by omega)]
  omega
theorem pick_rng (l : S) (n : Int) {k : Int} (hk : 1 ≤ k) : 0 ≤ pick l n k ∧ pick l n k < k := by
  unfold pick
  rw [if_neg (by omega)]
  split
  · omega
  · split
    · exact ⟨Int.emod_nonneg _ (by omega), Int.emod_lt_of_pos _ (by omega)⟩
    · exact ⟨Int.emod_nonneg _ (by omega), Int.emod_lt_of_pos _ (by omega)⟩
theorem byte_rng (b : UInt8) : 0 ≤ (b.toNat : Int) ∧ (b.toNat : Int) ≤ 255 := by have := b.toNat_lt; omega
section
variable (L D : Nat)
theorem t_pick (l : S) (hl : l.length ≤ 2000) (n k : Int) (hn : 0 ≤ n ∧ n ≤ 1000000000) : ev E L (D + 1) 19 [.ptr (.imp 0) 0, .int .i64 k] [.cells [.sl (l.map rU), .int .i64 n]] =
    some (.int .i64 (pick l n k), [.cells [.sl (l.map rU), .int .i64 (n + 1)]]) := by
  rw [eq_19]
  have a1 : iAdd .i64 n 1 = n + 1 := iWrap_w (by omega) (by omega)
  have a2 : iSub .i64 (n + 1) 1 = n := (iWrap_w (by omega) (by omega)).trans (by omega)
  unfold pick
  by_cases hk : k < 1
  · simp only [bNot_t, iEq_dec, iLt_dec, nrows_map, br_eq, decide_true, decide_false, decide_eq_true_eq, if_true, if_false, Bool.false_eq_true, Int.reduceEq, a1, a2, hk]
  by_cases h0 : l = []
  · subst h0; simp only [bNot_f, iEq_dec, iLt_dec, nrows_map, br_eq, decide_false, decide_eq_true_eq, if_true, if_false, Bool.false_eq_true, List.length_nil, Int.reduceEq, a1, a2, hk, List.length_nil]; rfl
  have hl0 : 0 < l.length := by cases l with | nil => exact absurd rfl h0 | cons _ _ => simp
  have e0 : decide ((l.length : Int) = 0) = false := by rw [decide_eq_false_iff_not]; omega
  have ek : decide (k = 0) = false := by rw [decide_eq_false_iff_not]; omega
  have e64 : decide ((64 : Int) = 0) = false := rfl
  by_cases hlt : n < l.length
  · obtain ⟨b0, b1⟩ := byte_rng (ix l n)
    have w1 : iWrap .i64 ((ix l n).toNat : Int) = (ix l n).toNat := iWrap_w (by omega) (by omega)
    simp (disch := omega) only [bnd_some', br_true', br_false', gInt_i, bNot_f, iEq_dec, iLt_dec, nrows_map, decide_true, decide_false, if_true, if_false, c_U0, rowZ_U, a1, a2, hk, e0, ek, h0, hlt, rowZ_U, w1, iRem_pos]
  · have m1 : 0 ≤ n % l.length := Int.emod_nonneg _ (by omega)
    have m2 : n % l.length < l.length := Int.emod_lt_of_pos _ (by omega)
    have m3 : 0 ≤ (n * 7 + 3) % l.length := Int.emod_nonneg _ (by omega)
    have m4 : (n * 7 + 3) % l.length < l.length := Int.emod_lt_of_pos _ (by omega)
    have q1 : 0 ≤ n / l.length := Int.ediv_nonneg (by omega) (by omega)
    have q2 : n / l.length ≤ n := Int.ediv_le_self _ (by omega)
    have r1 : iRem n l.length = n % l.length := iRem_pos (by omega)
    have r2 : iRem (n * 7 + 3) l.length = (n * 7 + 3) % l.length := iRem_pos (by omega)
    have u1 : iMul .i64 n 7 = n * 7 := iWrap_w (by omega) (by omega)
    have u2 : iAdd .i64 (n * 7) 3 = n * 7 + 3 := iWrap_w (by omega) (by omega)
    have q : iQuo .i64 n l.length = n / l.length := iQuo_pos (by omega) (by omega) (by omega)
    obtain ⟨b0, b1⟩ := byte_rng (ix l (n % l.length))
    obtain ⟨d0, d1⟩ := byte_rng (ix l ((n * 7 + 3) % l.length))
    have v1 : iWrap .i64 ((ix l (n % l.length)).toNat : Int) = (ix l (n % l.length)).toNat := iWrap_w (by omega) (by omega)
    have v2 : iWrap .i64 ((ix l ((n * 7 + 3) % l.length)).toNat : Int) = (ix l ((n * 7 + 3) % l.length)).toNat := iWrap_w (by omega) (by omega)
    have p1 : iMul .i64 ((ix l (n % l.length)).toNat : Int) 131 = (ix l (n % l.length)).toNat * 131 := iWrap_w (by omega) (by omega)
    have p2 : iMul .i64 ((ix l ((n * 7 + 3) % l.length)).toNat : Int) 1117 = (ix l ((n * 7 + 3) % l.length)).toNat * 1117 := iWrap_w (by omega) (by omega)
    have p3 : iMul .i64 n 29 = n * 29 := iWrap_w (by omega) (by omega)
    have p4 : iMul .i64 (n / l.length) 53 = n / l.length * 53 := iWrap_w (by omega) (by omega)
    have p5 : iAdd .i64 (((ix l (n % l.length)).toNat : Int) * 131) ((ix l ((n * 7 + 3) % l.length)).toNat * 1117) = (ix l (n % l.length)).toNat * 131 + (ix l ((n * 7 + 3) % l.length)).toNat * 1117 := iWrap_w (by omega) (by omega)
    have p6 : iAdd .i64 (((ix l (n % l.length)).toNat : Int) * 131 + (ix l ((n * 7 + 3) % l.length)).toNat * 1117) (n * 29) = (ix l (n % l.length)).toNat * 131 + (ix l ((n * 7 + 3) % l.length)).toNat * 1117 + n * 29 := iWrap_w (by omega) (by omega)
    have p7 : iAdd .i64 (((ix l (n % l.length)).toNat : Int) * 131 + (ix l ((n * 7 + 3) % l.length)).toNat * 1117 + n * 29) (n / l.length * 53) = mix l n := iWrap_w (by omega) (by omega)
    have g0 : 0 ≤ mix l n ∧ mix l n ≤ 100000000000000 := by unfold mix; omega
    have p8 : iQuo .i64 (mix l n) 64 = mix l n / 64 := iQuo_pos (by omega) (by omega) (by omega)
    have gx := @iXor_nn (mix l n) (mix l n / 64) (by omega) (by omega)
    have p9 : iRem (iXor .i64 (mix l n) (mix l n / 64)) k = iXor .i64 (mix l n) (mix l n / 64) % k := iRem_pos gx
    simp (disch := omega) only [bnd_some', br_true', br_false', gInt_i, bNot_f, iEq_dec, iLt_dec, nrows_map, decide_false, if_false, Int.reduceEq, c_U0, rowZ_U, a1, a2, hk, e0, ek, h0, hlt, r1, r2, u1, u2, q, rowZ_U, v1, v2, p1, p2, p3, p4, p5, p6, p7, p8, p9]
end
end Kw
namespace Kw
open Go Go.Proofs
/-- an event, the reader further on, the world as it was -/
def Ge (l : S) (w : World) (n : Int) (x : Option (MV × List Obj)) : Prop := ∃ (e : Event) (n' : Int), (n ≤ n' ∧ n' ≤ n + 20) ∧
  x = some (.agg [.int .i64 e.kind, .int .i64 e.who, .int .i64 e.add, .int .i64 e.remove, .int .i64 e.pos, .str (bs e.text)], [.cells [.sl (l.map rU), .int .i64 n'], .rows (w.seats.map rM), .rows (w.waits.map rWt), .rows (w.log.map rC), .rows (w.fresh.map rI), .rows (w.spy.map rS), .rows (w.stolen.map rSt), .rows (w.frames.map rF), .rows (w.said.map rI), .rows (w.wins.map rWs), .rows (w.told.map rT)])
theorem ge_br {l : S} {w : World} {n : Int} {c : Bool} {a b : Option (MV × List Obj)} (ha : Ge l w n a) (hb : Ge l w n b) : Ge l w n (br c a b) := by cases c; exact hb; exact ha
theorem ge_leaf {l : S} {w : World} {n n' : Int} (a b c d e : Int) (t : S) (h : n ≤ n' ∧ n' ≤ n + 20) :
    Ge l w n (some (.agg [.int .i64 a, .int .i64 b, .int .i64 c, .int .i64 d, .int .i64 e, .str (bs t)], [.cells [.sl (l.map rU), .int .i64 n'], .rows (w.seats.map rM), .rows (w.waits.map rWt), .rows (w.log.map rC), .rows (w.fresh.map rI), .rows (w.spy.map rS), .rows (w.stolen.map rSt), .rows (w.frames.map rF), .rows (w.said.map rI), .rows (w.wins.map rWs), .rows (w.told.map rT)])) := ⟨⟨a, b, c, d, e, t⟩, n', h, rfl⟩
theorem ge_ite {l : S} {w : World} {n : Int} {c : Prop} [Decidable c] {a b : Option (MV × List Obj)} (ha : c → Ge l w n a) (hb : ¬ c → Ge l w n b) : Ge l w n (if c then a else b) := by
  split
  · exact ha ‹_›
  · exact hb ‹_›
/-- small tables -/
theorem tab3 (a b c : MV) (l : S) (n : Int) : rowZ 1 [[a], [b], [c]] (pick l n 3) = some [if pick l n 3 = 0 then a else if pick l n 3 = 1 then b else c] := by
  have := @pick_rng l n 3 (by omega)
  generalize pick l n 3 = k at *
  have h : k = 0 ∨ k = 1 ∨ k = 2 := by omega
  rcases h with rfl | rfl | rfl <;> rfl
theorem tab3a (a b c : MV) (l : S) (n : Int) : rowAt [[a], [b], [c]] (pick l n 3) = some [if pick l n 3 = 0 then a else if pick l n 3 = 1 then b else c] := by
  have := @pick_rng l n 3 (by omega)
  generalize pick l n 3 = k at *
  have h : k = 0 ∨ k = 1 ∨ k = 2 := by omega
  rcases h with rfl | rfl | rfl <;> rfl
theorem tab4 (a b c d : MV) (l : S) (n : Int) : rowZ 1 [[a], [b], [c], [d]] (pick l n 4) = some [if pick l n 4 = 0 then a else if pick l n 4 = 1 then b else if pick l n 4 = 2 then c else d] := by
  have := @pick_rng l n 4 (by omega)
  generalize pick l n 4 = k at *
  have h : k = 0 ∨ k = 1 ∨ k = 2 ∨ k = 3 := by omega
  rcases h with rfl | rfl | rfl | rfl <;> rfl
theorem tab4a (a b c d : MV) (l : S) (n : Int) : rowAt [[a], [b], [c], [d]] (pick l n 4) = some [if pick l n 4 = 0 then a else if pick l n 4 = 1 then b else if pick l n 4 = 2 then c else d] := by
  have := @pick_rng l n 4 (by omega)
  generalize pick l n 4 = k at *
  have h : k = 0 ∨ k = 1 ∨ k = 2 ∨ k = 3 := by omega
  rcases h with rfl | rfl | rfl | rfl <;> rfl
theorem gInt_ite {k : IntKind} {c : Prop} [Decidable c] {a : Int} {b : MV} : gInt k (if c then .int k a else b) = if c then some a else gInt k b := by split <;> first | rfl | simp [gInt]
theorem gInt_if3 (p q : Prop) [Decidable p] [Decidable q] (a b c : Int) : gInt .i64 (if p then .int .i64 a else if q then .int .i64 b else .int .i64 c) = some (if p then a else if q then b else c) := by
  split
  · rfl
  · split <;> rfl
theorem gStr_if3 (p q : Prop) [Decidable p] [Decidable q] (a b c : S) : gStr (if p then .str (bs a) else if q then .str (bs b) else .str (bs c)) = some (bs (if p then a else if q then b else c)) := by
  split
  · rfl
  · split <;> rfl
theorem gStr_if4 (p q r : Prop) [Decidable p] [Decidable q] [Decidable r] (a b c d : S) : gStr (if p then .str (bs a) else if q then .str (bs b) else if r then .str (bs c) else .str (bs d)) = some (bs (if p then a else if q then b else if r then c else d)) := by
  split
  · rfl
  · split
    · rfl
    · split <;> rfl
section
variable (L D : Nat)
theorem jp_Event (l : S) (hl : l.length ≤ 2000) (w : World) (z : WJ w) (n n0 : Int) (hn : 0 ≤ n ∧ n ≤ 1000000) (h0 : n0 ≤ n ∧ n ≤ n0 + 2) (i22 i23 i24 i25 i26 : Int) (s27 : ByteArray) (i28 i29 i30 i31 i32 : Int) (x : S) :
    Ge l w n0 (JP_27_7 L (D + 1) (w.seats.map rM) (w.waits.map rWt) (w.log.map rC) (w.fresh.map rI) (w.spy.map rS) (w.stolen.map rSt) (w.frames.map rF) (w.said.map rI) (w.wins.map rWs) (w.told.map rT) (l.map rU) n w.seats.length w.waits.length w.log.length w.fresh.length w.spy.length w.stolen.length w.frames.length w.said.length w.wins.length w.told.length i22 i23 i24 i25 i26 s27 i28 i29 i30 i31 i32 (bs x)) := by
  rw [JP_27_7_eq]
  have z1 : w.waits.length ≤ 16 := z.waitsL
  by_cases hw : w.waits.length = 0
  · have e0 : decide ((0 : Int) < w.waits.length) = false := by rw [decide_eq_false_iff_not]; omega
    simp (disch := omega) only [bnd_some', br_true', br_false', gInt_i, gSl_r, cellAt_zero, cellAt_succ, hdO_c, iEq_dec, iLt_dec, nrows_map, nrows_nil, nrows_cons, gCellsN_if, if_true, List.length_cons, List.length_nil, Nat.reduceAdd, ↓dec_selfI, t_pick, e0, tab3, tab3a, tab4, tab4a, gInt_if3, gStr_if3, gStr_if4, JP_27_39_eq]
    repeat' (first | exact ge_leaf _ _ _ _ _ _ (by omega) | apply ge_br)
  · have e0 : decide ((0 : Int) < w.waits.length) = true := by rw [decide_eq_true_eq]; omega
    have p0 : ∀ k : Int, rowZ 4 (w.waits.map rWt) (pick l k w.waits.length) = some (rWt (ix w.waits (pick l k w.waits.length))) := fun k => by
      have := @pick_rng l k w.waits.length (by omega)
      exact rowZ_Wt _ w.waits (by omega) (by omega)
    have p1 : ∀ k : Int, rowAt (w.waits.map rWt) (pick l k w.waits.length) = some (rWt (ix w.waits (pick l k w.waits.length))) := fun k => by
      have := @pick_rng l k w.waits.length (by omega)
      exact rowAt_Wt w.waits _ (by omega) (by omega)
    simp (disch := omega) only [bnd_some', br_true', gInt_i, gStr_s, gSl_r, cellAt_zero, cellAt_succ, hdO_c, iEq_dec, iLt_dec, nrows_map, nrows_nil, nrows_cons, gCellsN_if, if_true, List.length_cons, List.length_nil, Nat.reduceAdd, ↓dec_selfI, c_Wt0, c_Wt1, c_Wt2, c_Wt3, t_pick, p0, p1, e0, tab3, tab3a, tab4, tab4a, gInt_if3, gStr_if3, gStr_if4, JP_27_39_eq]
    repeat' (first | exact ge_leaf _ _ _ _ _ _ (by omega) | apply ge_br)
theorem lp_Event (l : S) (hl : l.length ≤ 2000) (w : World) (z : WJ w) (n n0 : Int) (hn : 0 ≤ n ∧ n ≤ 1000000) (h0 : n0 ≤ n ∧ n ≤ n0 + 2) (i22 i23 i24 i25 i26 : Int) (s27 : ByteArray) (i28 i30 i31 i32 : Int) (x : S) : ∀ (m k : Nat) (i29 : Int), 8 - k < m → k ≤ 8 → 0 ≤ i29 ∧ i29 ≤ 7 →
    Ge l w n0 (LP_27_4 L (D + 1) m (w.seats.map rM) (w.waits.map rWt) (w.log.map rC) (w.fresh.map rI) (w.spy.map rS) (w.stolen.map rSt) (w.frames.map rF) (w.said.map rI) (w.wins.map rWs) (w.told.map rT) (l.map rU) n w.seats.length w.waits.length w.log.length w.fresh.length w.spy.length w.stolen.length w.frames.length w.said.length w.wins.length w.told.length i22 i23 i24 i25 i26 s27 i28 i29 i30 i31 i32 (bs x) k)
  | 0, _, _, h, _, _ => by omega
  | m + 1, k, i29, h, hk, hi => by
    rw [LP_27_4_succ]
    have hj := jp_Event L D l hl w z n n0 hn h0 i22 i23 i24 i25 i26 s27 i28 i29 i30 i31 i32 x
    by_cases h8 : k < 8
    · have h8' : ((k : Int) < 8) := by omega
      have s8 := z.seats8
      have ih := lp_Event l hl w z n n0 hn h0 i22 i23 i24 i25 i26 s27 i28 i30 i31 i32 x m (k + 1) (iRem (iAdd .i64 i29 1) 8) (by omega) (by omega) (by
        have a : iAdd .i64 i29 1 = i29 + 1 := iWrap_w (by omega) (by omega)
        rw [a, iRem_pos (by omega)]; omega)
      have a1 : iAdd .i64 (k : Int) 1 = ((k + 1 : Nat) : Int) := (iWrap_w (by omega) (by omega)).trans (by omega)
      have e8 : decide ((8 : Int) = 0) = false := rfl
      simp (disch := omega) only [bnd_some', br_true', br_false', gBool_b, br_bNot, iEq_dec, iLt_dec, nrows_map, decide_true, decide_false, Int.reduceEq, ↓dec_selfI, c_M0, rowAt_M, rowZ_M, h8', a1, rowZ_M, rowAt_M]
      exact ge_br hj ih
    · have h8' : ¬ ((k : Int) < 8) := by omega
      simp (disch := omega) only [br_false', iLt_dec, decide_false, h8']
      exact hj
theorem t_Event (l : S) (hl : l.length ≤ 2000) (w : World) (z : WJ w) (n : Int) (hn : 0 ≤ n ∧ n ≤ 900000) (hL : 1099511627776 ≤ L) :
    Ge l w n (ev E L (D + 2) 27 [.ptr (.imp 0) 0, .agg [.ref (.imp 1) w.seats.length, .ref (.imp 2) w.waits.length, .ref (.imp 3) w.log.length, .ref (.imp 4) w.fresh.length, .ref (.imp 5) w.spy.length, .ref (.imp 6) w.stolen.length, .ref (.imp 7) w.frames.length, .ref (.imp 8) w.said.length, .ref (.imp 9) w.wins.length, .ref (.imp 10) w.told.length]] [.cells [.sl (l.map rU), .int .i64 n], .rows (w.seats.map rM), .rows (w.waits.map rWt), .rows (w.log.map rC), .rows (w.fresh.map rI), .rows (w.spy.map rS), .rows (w.stolen.map rSt), .rows (w.frames.map rF), .rows (w.said.map rI), .rows (w.wins.map rWs), .rows (w.told.map rT)]) := by
  have h := eq_27 L (D + 1) (l.map rU) n (w.seats.map rM) (w.waits.map rWt) (w.log.map rC) (w.fresh.map rI) (w.spy.map rS) (w.stolen.map rSt) (w.frames.map rF) (w.said.map rI) (w.wins.map rWs) (w.told.map rT)
  simp (disch := omega) only [bnd_some', gInt_i, gSl_r, cellAt_zero, cellAt_succ, hdO_c, iLt_dec, nrows_map, gCellsN_if, if_true, List.length_cons, List.length_nil, Int.reduceNeg, Nat.reduceAdd, t_pick] at h
  rw [h]
  have := @pick_rng l n 5 (by omega)
  have h1 := lp_Event L D l hl w z (n + 1 + 1) n (by omega) (by omega) 0 0 0 0 0 (bs []) 0 (-1) (-1) 0 [] L 0 (pick l n 5) (by omega) (by omega) (by omega)
  have h2 := jp_Event L D l hl w z (n + 1 + 1) n (by omega) (by omega) 0 0 0 0 0 (bs []) 0 (pick l n 5) (-1) (-1) 0 []
  rw [show ((0 : Nat) : Int) = 0 from rfl] at h1
  exact ge_br h1 h2
end
end Kw
namespace Kw
open Go Go.Proofs
def Gp (l : S) (x : Option (MV × List Obj)) : Prop := ∃ (f : Int) (evs : List Event) (w : World) (n : Int), WJ w ∧ (0 ≤ n ∧ n ≤ 10000) ∧
  x = some (.tup [.int .i64 f, .own (evs.map rE), .agg [.own (w.seats.map rM), .own (w.waits.map rWt), .own (w.log.map rC), .own (w.fresh.map rI), .own (w.spy.map rS), .own (w.stolen.map rSt), .own (w.frames.map rF), .own (w.said.map rI), .own (w.wins.map rWs), .own (w.told.map rT)]], [.cells [.sl (l.map rU), .int .i64 n]])
theorem gp_br {l : S} {c : Bool} {a b : Option (MV × List Obj)} (ha : Gp l a) (hb : Gp l b) : Gp l (br c a b) := by cases c; exact hb; exact ha
section
variable (L D : Nat)
theorem lp_play3 (hL : 1099511627776 ≤ L) (l : S) (q0 q1 q2 q3 q4 q5 q6 q7 q8 q9 : List Row) (j0 j1 j2 j3 j4 j5 j6 j7 j8 j9 : Int) (f rounds n : Int) (n5 : Nat) (b : List Event) (hb : b.length ≤ 20)
    (H : ∀ (w : World) (evs : List Event), WJ w → evs.length ≤ 190 → Gp l (LP_20_5 L (D + 312) n5 q0 q1 q2 q3 q4 q5 q6 q7 q8 q9 (w.seats.map rM) (w.waits.map rWt) (w.log.map rC) (w.fresh.map rI) (w.spy.map rS) (w.stolen.map rSt) (w.frames.map rF) (w.said.map rI) (w.wins.map rWs) (w.told.map rT) (evs.map rE) (l.map rU) n j0 j1 j2 j3 j4 j5 j6 j7 j8 j9 w.seats.length w.waits.length w.log.length w.fresh.length w.spy.length w.stolen.length w.frames.length w.said.length w.wins.length w.told.length f evs.length (iSub .i64 rounds 1))) :
    ∀ (m k : Nat) (w : World) (evs : List Event), b.length - k < m → k ≤ b.length → WJ w → evs.length ≤ 190 → Gp l (LP_20_14 L (D + 312) m n5 q0 q1 q2 q3 q4 q5 q6 q7 q8 q9 (w.seats.map rM) (w.waits.map rWt) (w.log.map rC) (w.fresh.map rI) (w.spy.map rS) (w.stolen.map rSt) (w.frames.map rF) (w.said.map rI) (w.wins.map rWs) (w.told.map rT) (evs.map rE) (b.map rE) (l.map rU) n j0 j1 j2 j3 j4 j5 j6 j7 j8 j9 w.seats.length w.waits.length w.log.length w.fresh.length w.spy.length w.stolen.length w.frames.length w.said.length w.wins.length w.told.length f evs.length rounds b.length k)
  | 0, _, _, _, h, _, _, _ => by omega
  | m + 1, k, w, evs, h, hk, z, hv => by
    rw [LP_20_14_succ]
    by_cases h8 : k < b.length
    · have h8' : decide ((k : Int) < b.length) = true := by rw [decide_eq_true_eq]; omega
      have a1 : iAdd .i64 (k : Int) 1 = ((k + 1 : Nat) : Int) := (iWrap_w (by omega) (by omega)).trans (by omega)
      by_cases h190 : evs.length < 190
      · have h1 : decide ((evs.length : Int) < 190) = true := by rw [decide_eq_true_eq]; omega
        have ih := lp_play3 hL l q0 q1 q2 q3 q4 q5 q6 q7 q8 q9 j0 j1 j2 j3 j4 j5 j6 j7 j8 j9 f rounds n n5 b hb H m (k + 1) (step w (ix b (k : Int))) (evs ++ [ix b (k : Int)]) (by omega) (by omega) (z.step _) (by simp; omega)
        have hs := fun e => t_l7Step L D hL w z.toWI e
        simp (disch := omega) only [bnd_some', br_true', gInt_i, gStr_s, gOwn_r, cellAt_zero, cellAt_succ, beq_self_eq_true, iEq_dec, iLt_dec, bAnd_r, nrows_map, nrows_nil, nrows_cons, gAggN_if, if_true, List.length_cons, List.length_nil, Nat.reduceAdd, okR_E, okR_cons, okR_nil, Bool.and_self, ↓dec_selfI, c_E0, c_E1, c_E2, c_E3, c_E4, c_E5, cat1_E, rowAt_E, rowZ_E, h8', h1, a1, fits_true, hs]
        exact ih
      · have h1 : decide ((evs.length : Int) < 190) = false := by rw [decide_eq_false_iff_not]; omega
        simp (disch := omega) only [br_true', br_false', iEq_dec, iLt_dec, nrows_map, ↓dec_selfI, h8', h1, a1]
        exact lp_play3 hL l q0 q1 q2 q3 q4 q5 q6 q7 q8 q9 j0 j1 j2 j3 j4 j5 j6 j7 j8 j9 f rounds n n5 b hb H m (k + 1) w evs (by omega) (by omega) z hv
    · have h8' : decide ((k : Int) < b.length) = false := by rw [decide_eq_false_iff_not]; omega
      simp (disch := omega) only [br_true', br_false', iEq_dec, iLt_dec, nrows_map, ↓dec_selfI, h8']
      exact H w evs z hv
theorem ev2 (k p : Int) : [[MV.int .i64 2, .int .i64 k, .int .i64 0, .int .i64 0, .int .i64 p, .str (bs [])], [.int .i64 3, .int .i64 k, .int .i64 0, .int .i64 0, .int .i64 p, .str (bs [])]] = [(⟨2, k, 0, 0, p, []⟩ : Event), ⟨3, k, 0, 0, p, []⟩].map rE := (rfl)
theorem lp_play2 (hL : 1099511627776 ≤ L) (l : S) (q0 q1 q2 q3 q4 q5 q6 q7 q8 q9 : List Row) (j0 j1 j2 j3 j4 j5 j6 j7 j8 j9 : Int) (f rounds n : Int) (n5 : Nat) (w : World) (z : WJ w) (evs : List Event) (hv : evs.length ≤ 190)
    (H : ∀ (w : World) (evs : List Event), WJ w → evs.length ≤ 190 → Gp l (LP_20_5 L (D + 312) n5 q0 q1 q2 q3 q4 q5 q6 q7 q8 q9 (w.seats.map rM) (w.waits.map rWt) (w.log.map rC) (w.fresh.map rI) (w.spy.map rS) (w.stolen.map rSt) (w.frames.map rF) (w.said.map rI) (w.wins.map rWs) (w.told.map rT) (evs.map rE) (l.map rU) n j0 j1 j2 j3 j4 j5 j6 j7 j8 j9 w.seats.length w.waits.length w.log.length w.fresh.length w.spy.length w.stolen.length w.frames.length w.said.length w.wins.length w.told.length f evs.length (iSub .i64 rounds 1))) :
    ∀ (m k : Nat) (b : List Event), 5 - k < m → k ≤ 5 → b.length ≤ 1 + 2 * k → Gp l (LP_20_10 L (D + 312) m n5 q0 q1 q2 q3 q4 q5 q6 q7 q8 q9 (w.seats.map rM) (w.waits.map rWt) (w.log.map rC) (w.fresh.map rI) (w.spy.map rS) (w.stolen.map rSt) (w.frames.map rF) (w.said.map rI) (w.wins.map rWs) (w.told.map rT) (evs.map rE) (b.map rE) (l.map rU) n j0 j1 j2 j3 j4 j5 j6 j7 j8 j9 w.seats.length w.waits.length w.log.length w.fresh.length w.spy.length w.stolen.length w.frames.length w.said.length w.wins.length w.told.length f evs.length rounds b.length k)
  | 0, _, _, h, _, _ => by omega
  | m + 1, k, b, h, hk, hb => by
    rw [LP_20_10_succ]
    by_cases h8 : k < 5
    · have h8' : decide ((k : Int) < 5) = true := by rw [decide_eq_true_eq]; omega
      have a1 : iAdd .i64 (k : Int) 1 = ((k + 1 : Nat) : Int) := (iWrap_w (by omega) (by omega)).trans (by omega)
      have ih := lp_play2 hL l q0 q1 q2 q3 q4 q5 q6 q7 q8 q9 j0 j1 j2 j3 j4 j5 j6 j7 j8 j9 f rounds n n5 w z evs hv H m (k + 1) (b ++ [⟨2, k, 0, 0, w.log.length, []⟩, ⟨3, k, 0, 0, w.log.length, []⟩]) (by omega) (by omega) (by simp; omega)
      simp (disch := omega) only [ev2, br_true', iEq_dec, iLt_dec, bAnd_r, nrows_map, catR_map, List.length_cons, List.length_nil, Nat.reduceAdd, okR_E, ↓dec_selfI, h8', a1, fits_true]
      exact ih
    · have h8' : decide ((k : Int) < 5) = false := by rw [decide_eq_false_iff_not]; omega
      simp (disch := omega) only [br_false', iLt_dec, h8']
      have := lp_play3 L D hL l q0 q1 q2 q3 q4 q5 q6 q7 q8 q9 j0 j1 j2 j3 j4 j5 j6 j7 j8 j9 f rounds n n5 b (by omega) H L 0 w evs (by omega) (by omega) z hv
      rw [show ((0 : Nat) : Int) = 0 from rfl] at this
      exact this
theorem lp_play1 (hL : 1099511627776 ≤ L) (l : S) (hl : l.length ≤ 2000) (q0 q1 q2 q3 q4 q5 q6 q7 q8 q9 : List Row) (f : Int) : ∀ (m i : Nat) (n : Int) (j0 j1 j2 j3 j4 j5 j6 j7 j8 j9 : Int) (w : World) (evs : List Event), i < m → 0 ≤ n → n + 30 * i ≤ 5000 → WJ w → evs.length ≤ 190 → Gp l (LP_20_5 L (D + 312) m q0 q1 q2 q3 q4 q5 q6 q7 q8 q9 (w.seats.map rM) (w.waits.map rWt) (w.log.map rC) (w.fresh.map rI) (w.spy.map rS) (w.stolen.map rSt) (w.frames.map rF) (w.said.map rI) (w.wins.map rWs) (w.told.map rT) (evs.map rE) (l.map rU) n j0 j1 j2 j3 j4 j5 j6 j7 j8 j9 w.seats.length w.waits.length w.log.length w.fresh.length w.spy.length w.stolen.length w.frames.length w.said.length w.wins.length w.told.length f evs.length i)
  | 0, _, _, _, _, _, _, _, _, _, _, _, _, _, _, h, _, _, _, _ => by omega
  | m + 1, i, n, j0, j1, j2, j3, j4, j5, j6, j7, j8, j9, w, evs, h, hn, hi, z, hv => by
    rw [LP_20_5_succ]
    by_cases h0 : 0 < i
    · have h0' : decide ((0 : Int) < i) = true := by rw [decide_eq_true_eq]; omega
      obtain ⟨e, n', hn', he⟩ := t_Event L (D + 310) l hl w z n (by omega) hL
      have he' : ev E L (D + 312) 27 [.ptr (.imp 0) 0, .agg [.ref (.imp 1) w.seats.length, .ref (.imp 2) w.waits.length, .ref (.imp 3) w.log.length, .ref (.imp 4) w.fresh.length, .ref (.imp 5) w.spy.length, .ref (.imp 6) w.stolen.length, .ref (.imp 7) w.frames.length, .ref (.imp 8) w.said.length, .ref (.imp 9) w.wins.length, .ref (.imp 10) w.told.length]] [.cells [.sl (l.map rU), .int .i64 n], .rows (w.seats.map rM), .rows (w.waits.map rWt), .rows (w.log.map rC), .rows (w.fresh.map rI), .rows (w.spy.map rS), .rows (w.stolen.map rSt), .rows (w.frames.map rF), .rows (w.said.map rI), .rows (w.wins.map rWs), .rows (w.told.map rT)] = _ := he
      have hp := t_pick L (D + 311) l hl
      have a1 : iSub .i64 (i : Int) 1 = ((i - 1 : Nat) : Int) := (iWrap_w (by omega) (by omega)).trans (by omega)
      have H : ∀ (n : Int) (_ : 0 ≤ n ∧ n ≤ n' + 1) (j0 j1 j2 j3 j4 j5 j6 j7 j8 j9 : Int) (w : World) (evs : List Event), WJ w → evs.length ≤ 190 → Gp l (LP_20_5 L (D + 312) m q0 q1 q2 q3 q4 q5 q6 q7 q8 q9 (w.seats.map rM) (w.waits.map rWt) (w.log.map rC) (w.fresh.map rI) (w.spy.map rS) (w.stolen.map rSt) (w.frames.map rF) (w.said.map rI) (w.wins.map rWs) (w.told.map rT) (evs.map rE) (l.map rU) n j0 j1 j2 j3 j4 j5 j6 j7 j8 j9 w.seats.length w.waits.length w.log.length w.fresh.length w.spy.length w.stolen.length w.frames.length w.said.length w.wins.length w.told.length f evs.length (iSub .i64 i 1)) := fun n h2 j0 j1 j2 j3 j4 j5 j6 j7 j8 j9 w evs z hv => by
        rw [a1]; exact lp_play1 hL l hl q0 q1 q2 q3 q4 q5 q6 q7 q8 q9 f m (i - 1) n j0 j1 j2 j3 j4 j5 j6 j7 j8 j9 w evs (by omega) (by omega) (by omega) z hv
      have g1 := fun (b : List Event) hb => lp_play3 L D hL l q0 q1 q2 q3 q4 q5 q6 q7 q8 q9 j0 j1 j2 j3 j4 j5 j6 j7 j8 j9 f i n' m b hb (H n' (by omega) j0 j1 j2 j3 j4 j5 j6 j7 j8 j9) L 0 w evs (by omega) (by omega) z hv
      have g2 := fun (b : List Event) hb => lp_play3 L D hL l q0 q1 q2 q3 q4 q5 q6 q7 q8 q9 j0 j1 j2 j3 j4 j5 j6 j7 j8 j9 f i (n' + 1) m b hb (H (n' + 1) (by omega) j0 j1 j2 j3 j4 j5 j6 j7 j8 j9) L 0 w evs (by omega) (by omega) z hv
      have g3 := fun (b : List Event) hb => lp_play2 L D hL l q0 q1 q2 q3 q4 q5 q6 q7 q8 q9 j0 j1 j2 j3 j4 j5 j6 j7 j8 j9 f i (n' + 1) m w z evs hv (H (n' + 1) (by omega) j0 j1 j2 j3 j4 j5 j6 j7 j8 j9) L 0 b (by omega) (by omega) hb
      simp (disch := omega) only [bnd_some', br_true', gInt_i, gStr_s, gSl_r, gRows_r, cellAt_zero, cellAt_succ, hdO_c, tlO_c, iEq_dec, iLt_dec, nrows_map, gAggN_if, gCellsN_if, if_true, List.length_cons, List.length_nil, Nat.reduceAdd, ↓dec_selfI, h0', he', hp, mk1_E]
      refine gp_br (gp_br ?_ ?_) ?_
      · exact g3 [e] (by simp)
      · exact g2 [e] (by simp)
      · exact g1 [e] (by simp)
    · have h0' : decide ((0 : Int) < i) = false := by rw [decide_eq_false_iff_not]; omega
      have hc := t_l7Copy L (D + 309) hL w z.sz
      simp (disch := omega) only [bnd_some', br_true', br_false', gOwn_r, cellAt_zero, cellAt_succ, iEq_dec, iLt_dec, nrows_map, gAggN_if, if_true, List.length_cons, List.length_nil, Nat.reduceAdd, ↓dec_selfI, h0', hc]
      exact ⟨f, evs, w, n, z, by omega, rfl⟩
end
end Kw
namespace Kw
open Go Go.Proofs
section
variable (L D : Nat)
theorem t_Play (hL : 1099511627776 ≤ L) (l : S) (hl : l.length ≤ 2000) (k : Int) (hk : 1 ≤ k ∧ k ≤ 40) : Gp l (ev E L (D + 313) 20 [.ptr (.imp 0) 0, .int .i64 k] [.cells [.sl (l.map rU), .int .i64 0]]) := by
  have h := eq_20 L (D + 312) (l.map rU) 0 k
  have hp := t_pick L (D + 311) l hl
  have hg := t_GrpNew L (D + 2) hL (pick l 0 5)
  obtain ⟨k0, k1⟩ := @pick_rng l 0 5 (by omega)
  obtain ⟨j0, j1⟩ := @pick_rng l (0 + 1) k (by omega)
  simp (disch := omega) only [bnd_some', gInt_i, gSl_r, gOwn_r, cellAt_zero, cellAt_succ, hdO_c, nrows_map, nrows_nil, gAggN_if, gCellsN_if, if_true, List.length_cons, List.length_nil, Nat.reduceAdd, hp, hg] at h
  rw [h]
  have h1 := lp_play1 L D hL l hl [] [] [] [] [] [] [] [] [] [] (pick l 0 5) L (pick l (0 + 1) k).toNat (0 + 1 + 1) 0 0 0 0 0 0 0 0 0 0 (grpNew (pick l 0 5)) [] (by omega) (by omega) (by omega) (WJ.new ⟨by omega, by omega⟩) (by simp)
  rw [Int.toNat_of_nonneg j0] at h1
  exact h1
def Gw (l : S) (x : Option (MV × List Obj)) : Prop := ∃ (w : World) (n : Int), WJ w ∧ (0 ≤ n ∧ n ≤ 10000) ∧
  x = some (.agg [.own (w.seats.map rM), .own (w.waits.map rWt), .own (w.log.map rC), .own (w.fresh.map rI), .own (w.spy.map rS), .own (w.stolen.map rSt), .own (w.frames.map rF), .own (w.said.map rI), .own (w.wins.map rWs), .own (w.told.map rT)], [.cells [.sl (l.map rU), .int .i64 n]])
theorem t_World (hL : 1099511627776 ≤ L) (l : S) (hl : l.length ≤ 2000) : Gw l (ev E L (D + 314) 12 [.ptr (.imp 0) 0] [.cells [.sl (l.map rU), .int .i64 0]]) := by
  obtain ⟨f, evs, w, n, z, hn, h⟩ := t_Play L D hL l hl 40 (by omega)
  refine ⟨w, n, z, hn, ?_⟩
  rw [eq_12]
  simp (disch := omega) only [bnd_some', br_true', gInt_i, gSl_r, gOwn_r, cellAt_zero, cellAt_succ, hdO_c, iEq_dec, nrows_map, gTupN_if, gAggN_if, gCellsN_if, if_true, List.length_cons, List.length_nil, Nat.reduceAdd, ↓dec_selfI, h]
def Gt (l : S) (w : World) (n0 : Int) (x : Option (MV × List Obj)) : Prop := ∃ (t : S) (n : Int), t.length ≤ 700 ∧ (0 ≤ n ∧ n ≤ n0 + 3) ∧
  x = some (.str (bs t), [.cells [.sl (l.map rU), .int .i64 n], .rows (w.seats.map rM), .rows (w.waits.map rWt), .rows (w.log.map rC), .rows (w.fresh.map rI), .rows (w.spy.map rS), .rows (w.stolen.map rSt), .rows (w.frames.map rF), .rows (w.said.map rI), .rows (w.wins.map rWs), .rows (w.told.map rT)])
theorem gt_br {l : S} {w : World} {n0 : Int} {c : Bool} {a b : Option (MV × List Obj)} (ha : Gt l w n0 a) (hb : Gt l w n0 b) : Gt l w n0 (br c a b) := by cases c; exact hb; exact ha
theorem t_Tag (hL : 1099511627776 ≤ L) (l : S) (hl : l.length ≤ 2000) (w : World) (z : WJ w) (n : Int) (hn : 0 ≤ n ∧ n ≤ 15000) : Gt l w n (ev E L (D + 2) 11 [.ptr (.imp 0) 0, .agg [.ref (.imp 1) w.seats.length, .ref (.imp 2) w.waits.length, .ref (.imp 3) w.log.length, .ref (.imp 4) w.fresh.length, .ref (.imp 5) w.spy.length, .ref (.imp 6) w.stolen.length, .ref (.imp 7) w.frames.length, .ref (.imp 8) w.said.length, .ref (.imp 9) w.wins.length, .ref (.imp 10) w.told.length]] [.cells [.sl (l.map rU), .int .i64 n], .rows (w.seats.map rM), .rows (w.waits.map rWt), .rows (w.log.map rC), .rows (w.fresh.map rI), .rows (w.spy.map rS), .rows (w.stolen.map rSt), .rows (w.frames.map rF), .rows (w.said.map rI), .rows (w.wins.map rWs), .rows (w.told.map rT)]) := by
  have h := eq_11 L (D + 1) (l.map rU) n (w.seats.map rM) (w.waits.map rWt) (w.log.map rC) (w.fresh.map rI) (w.spy.map rS) (w.stolen.map rSt) (w.frames.map rF) (w.said.map rI) (w.wins.map rWs) (w.told.map rT)
  have z8 := z.seats8
  have zl := z.log16
  have hp := t_pick L D l hl
  have s0 : ∀ k : Int, rowZ 7 (w.seats.map rM) (pick l k w.seats.length) = some (rM (ix w.seats (pick l k w.seats.length))) := fun k => by
    have := @pick_rng l k w.seats.length (by omega)
    exact rowZ_M _ w.seats (by omega) (by omega)
  have s1 : ∀ k : Int, rowAt (w.seats.map rM) (pick l k w.seats.length) = some (rM (ix w.seats (pick l k w.seats.length))) := fun k => by
    have := @pick_rng l k w.seats.length (by omega)
    exact rowAt_M w.seats _ (by omega) (by omega)
  have st : ∀ k : Int, (ix w.seats (pick l k w.seats.length)).tag.length ≤ 600 := fun k => by
    have := @pick_rng l k w.seats.length (by omega)
    exact (z.seat _ (ixm _ _ (by omega) (by omega))).2.2.2.1
  by_cases h0 : 0 < w.log.length
  · have h0' : decide ((0 : Int) < w.log.length) = true := by rw [decide_eq_true_eq]; omega
    have c0 : ∀ k : Int, rowZ 13 (w.log.map rC) (pick l k w.log.length) = some (rC (ix w.log (pick l k w.log.length))) := fun k => by
      have := @pick_rng l k w.log.length (by omega)
      exact rowZ_C _ w.log (by omega) (by omega)
    have c1 : ∀ k : Int, rowAt (w.log.map rC) (pick l k w.log.length) = some (rC (ix w.log (pick l k w.log.length))) := fun k => by
      have := @pick_rng l k w.log.length (by omega)
      exact rowAt_C w.log _ (by omega) (by omega)
    have ct : ∀ k : Int, (ix w.log (pick l k w.log.length)).tag.length ≤ 300 ∧ (ix w.log (pick l k w.log.length)).name.length ≤ 300 := fun k => by
      have := @pick_rng l k w.log.length (by omega)
      have hm := ixm w.log (pick l k w.log.length) (by omega) (by omega)
      exact ⟨(z.cmt _ hm).1, z.nameL _ hm⟩
    have cf : ∀ k : Int, fits ((ix w.log (pick l k w.log.length)).tag.length : Int) ((ix w.log (pick l k w.log.length)).name.length : Int) 1 = true := fun k => by
      have := ct k
      exact fits_true _ _ _ (by omega)
    simp (disch := omega) only [bnd_some', br_true', gBool_b, gInt_i, gStr_s, gSl_r, cellAt_zero, cellAt_succ, hdO_c, iEq_dec, iLt_dec, sLen_bs, sCat_bs, nrows_map, gCellsN_if, if_true, List.length_cons, List.length_nil, Nat.reduceAdd, ↓dec_selfI, c_M0, c_M1, c_M2, c_M3, c_M4, c_M5, c_M6, c_C0, c_C1, c_C2, c_C3, c_C4, c_C5, c_C6, c_C7, c_C8, c_C9, c_C10, c_C11, c_C12, hp, h0', s0, s1, c0, c1, cf] at h
    rw [h]
    refine gt_br ⟨_, _, ?_, ?_, rfl⟩ ⟨_, _, ?_, ?_, rfl⟩
    · have := ct (n + 1); rw [List.length_append]; omega
    · omega
    · have := st (n + 1); omega
    · omega
  · have h0' : decide ((0 : Int) < w.log.length) = false := by rw [decide_eq_false_iff_not]; omega
    simp (disch := omega) only [bnd_some', br_true', br_false', gBool_b, gInt_i, gStr_s, gSl_r, cellAt_zero, cellAt_succ, hdO_c, iEq_dec, iLt_dec, nrows_map, gCellsN_if, if_true, List.length_cons, List.length_nil, Nat.reduceAdd, ↓dec_selfI, c_M0, c_M1, c_M2, c_M3, c_M4, c_M5, c_M6, hp, h0', s0, s1] at h
    rw [h]
    refine ⟨_, _, ?_, ?_, rfl⟩
    · have := st n; omega
    · omega
theorem t_Open (l : S) : ev E L (D + 1) 10 [.sl (l.map rU)] [] = some (.ptr (.imp 0) 0, [.cells [.sl ((l.take 2000).map rU), .int .i64 0]]) := by
  rw [eq_10]
  by_cases h : 2000 < l.length
  · have h' : decide ((2000 : Int) < l.length) = true := by rw [decide_eq_true_eq]; omega
    have h2 : decide ((2000 : Int) ≤ l.length) = true := by rw [decide_eq_true_eq]; omega
    simp (disch := omega) only [br_true', iLt_dec, iLe_dec, bAnd_r, nrows_map, decide_true, Int.reduceLE, okR_U, sub_U, h', h2]
    rfl
  · have h' : decide ((2000 : Int) < l.length) = false := by rw [decide_eq_false_iff_not]; omega
    simp (disch := omega) only [br_false', iLt_dec, nrows_map, h']
    rw [List.take_of_length_le (by omega)]
end
end Kw
namespace Kw
open Go Go.Proofs
section
variable (L D : Nat)
theorem t_Atoi1 : ev E L (D + 1) 74 [.str (bs [49])] [] = some (.tup [.int .i64 1, .iface true], []) := by
  have h : E.ext 74 = some atoiQ := rfl
  have h2 : atoiQ [.str (bs [49])] = some (.tup [.int .i64 1, .iface true]) := by rfl
  unfold ev
  simp only [h, h2]
  rfl
theorem gIf_b (b : Bool) : gIf (.iface b) = some b := (rfl)
theorem lp_numberOf (m : Nat) : LP_51_2 L (D + 1) (m + 2) (bs [49, 59]) 0 = some (.tup [.int .i64 1, .str (bs [59])], []) := by
  have a0 : sLen (bs [49, 59]) = 2 := rfl
  have a1 : sAt (bs [49, 59]) 0 = some 49 := rfl
  have a2 : sAt (bs [49, 59]) 1 = some 59 := rfl
  have a3 : sSub (bs [49, 59]) 0 1 = bs [49] := rfl
  have a4 : sSub (bs [49, 59]) 1 2 = bs [59] := rfl
  have a5 : iAdd .i64 0 1 = 1 := rfl
  have d1 : iLt 0 2 = true := rfl
  have d2 : iLt 1 2 = true := rfl
  have d3 : iLe 48 49 = true := rfl
  have d4 : iLe 49 57 = true := rfl
  have d5 : iLe 48 59 = true := rfl
  have d6 : iLe 59 57 = false := rfl
  have d7 : bAnd (iLe 0 0) (bAnd (iLe 0 1) (iLe 1 2)) = true := rfl
  have d8 : bAnd (iLe 0 1) (bAnd (iLe 1 2) (iLe 2 2)) = true := rfl
  have d9 : iEq 49 48 = false := rfl
  rw [LP_51_2_succ]
  simp only [a0, a1, a5, d1, d3, d4, br_true', bnd_some']
  rw [LP_51_2_succ]
  have ha := t_Atoi1 L D
  simp only [a0, a1, a2, a3, a4, d2, d5, d6, d9, br_true', br_false', bnd_some', ha, gTupN_t, bnd_some', br_true', br_false', gInt_i, cellAt_zero, cellAt_succ, bNot_t, bNot_f, iLe_dec, bAnd_r, decide_true, List.length_cons, List.length_nil, Int.reduceLE, Nat.reduceAdd, gIf_b]
theorem t_isOne (n : Int) (h : 0 ≤ n ∧ n ≤ 7) : ev E L (D + 2) 73 [.int .i64 n] [] = some (.bool true, []) := by
  rw [eq_73]
  have h' := eq_95 L D n 0 7
  have e1 : iLe 0 n = true := by unfold iLe; rw [decide_eq_true_eq]; omega
  have e2 : iLe n 7 = true := by unfold iLe; rw [decide_eq_true_eq]; omega
  rw [e1, e2] at h'
  simp only [bnd_some', br_true', gBool_b, h']
theorem t_one1 : ev E L (D + 3) 50 [.str (bs [65, 49, 59])] [] = some (.int .i64 0, []) := by
  rw [eq_50]
  have a0 : bNot (iEq (sLen (bs [65, 49, 59])) 0) = true := rfl
  have a1 : sAt (bs [65, 49, 59]) 0 = some 65 := rfl
  have a2 : iSub .i64 (iWrap .i64 65) 65 = 0 := rfl
  have h := t_isOne L D 0 (by omega)
  rw [a0]
  simp only [a1, a2, h, bnd_some', br_true', br_false', gBool_b, bNot_t, Int.reduceNeg]
theorem t_hasP : ev E L (D + 2) 17 [.str (bs [59]), .str (bs [59])] [] = some (.bool true, []) := by
  rw [eq_17]
  have h := eq_24 L D (bs [59]) (bs [59])
  have e1 : iLe (sLen (bs [59])) (sLen (bs [59])) = true := rfl
  have e2 : bAnd (iLe 0 0) (bAnd (iLe 0 (sLen (bs [59]))) (iLe (sLen (bs [59])) (sLen (bs [59])))) = true := rfl
  have e3 : sEq (sSub (bs [59]) 0 (sLen (bs [59]))) (bs [59]) = true := by rw [show sSub (bs [59]) 0 (sLen (bs [59])) = bs [59] from rfl, sEq_bs]; rfl
  rw [e2, e1, e3] at h
  simp only [h, bnd_some', br_true', gBool_b]
theorem t_keOk (hL : 1099511627776 ≤ L) : ev E L (D + 7) 9 [] [] = some (.bool true, []) := by
  obtain ⟨m, hm⟩ : ∃ m, L = m + 2 := ⟨L - 2, by omega⟩
  have h36 : ev E L (D + 3) 51 [.str (bs [49, 59])] [] = some (.tup [.int .i64 1, .str (bs [59])], []) := by
    rw [eq_51]
    have := lp_numberOf L (D + 1) m
    rw [← hm] at this; exact this
  have h35 := t_one1 L D
  have h12 := t_hasP L (D + 1)
  have h22 : ev E L (D + 4) 33 [.str (bs [65, 49, 59])] [] = some (.tup [.agg [.int .i64 1, .int .i64 0, .int .i64 1, .str (bs []), .str (bs [])], .str (bs []), .bool true], []) := by
    rw [eq_33]
    have a0 : sEq (bs [65, 49, 59]) (bs []) = false := by rw [sEq_bs]; rfl
    have a1 : iLe 0 0 = true := rfl
    have a2 : bAnd (iLe 0 1) (bAnd (iLe 1 (sLen (bs [65, 49, 59]))) (iLe (sLen (bs [65, 49, 59])) (sLen (bs [65, 49, 59])))) = true := rfl
    have a3 : sSub (bs [65, 49, 59]) 1 (sLen (bs [65, 49, 59])) = bs [49, 59] := rfl
    have a4 : bNot (iEq 1 0) = true := rfl
    have a5 : bAnd (iLe 0 1) (bAnd (iLe 1 (sLen (bs [59]))) (iLe (sLen (bs [59])) (sLen (bs [59])))) = true := rfl
    have a6 : sSub (bs [59]) 1 (sLen (bs [59])) = bs [] := rfl
    rw [a0, br_false', h35]
    simp only [bnd_some', gInt_i, a1, br_true', a2, a3, h36]
    have c1 : ((1 : Nat) : Int) = 1 := rfl
    simp only [bnd_some', br_true', br_false', gBool_b, gInt_i, gStr_s, cellAt_zero, cellAt_succ, bNot_t, bNot_f, iEq_dec, iLe_dec, bAnd_r, sLen_bs, sSub_ok, gTupN_if, decide_true, decide_false, if_true, List.length_cons, List.length_nil, Int.reduceLE, Int.reduceEq, Nat.reduceAdd, h12, c1]
    rfl
  have h17 : ev E L (D + 5) 25 [.str (bs [65, 49, 59])] [] = some (.agg [.int .i64 1, .int .i64 0, .int .i64 1, .str (bs []), .str (bs [])], []) := by
    rw [eq_25]
    have a0 : iLt 300 (sLen (bs [65, 49, 59])) = false := rfl
    have a1 : sEq (bs []) (bs []) = true := by rw [sEq_bs]; rfl
    rw [a0, br_false', h22]
    simp only [a1, bnd_some', br_true', gBool_b, gInt_i, gStr_s, cellAt_zero, cellAt_succ, bNot_bNot, br_bNot, gTupN_if, gAggN_if, if_true, List.length_cons, List.length_nil, Nat.reduceAdd]
  have h13 : ev E L (D + 6) 18 [.str (bs [65, 49, 59])] [] = some (.bool true, []) := by
    rw [eq_18]
    simp only [h17, bnd_some', gInt_i, gStr_s, cellAt_zero, cellAt_succ, bNot_f, iEq_dec, gAggN_if, decide_false, if_true, List.length_cons, List.length_nil, Int.reduceEq, Nat.reduceAdd]
  rw [eq_9]
  simp only [h13, bnd_some', gBool_b]
end
end Kw
namespace Kw
open Go Go.Proofs
/-- a text, the reader further on -/
def Gs (l : S) (x : Option (MV × List Obj)) : Prop := ∃ (t : S) (n : Int), t.length ≤ 701 ∧ x = some (.str (bs t), [.cells [.sl (l.map rU), .int .i64 n]])
theorem gs_br {l : S} {c : Bool} {a b : Option (MV × List Obj)} (ha : Gs l a) (hb : Gs l b) : Gs l (br c a b) := by cases c; exact hb; exact ha
def T10 (x : Int) : List Int := [32, 48, 49, 57, 59, 110, 101, 65, 73, x]
theorem tab10 (x : Int) (l : S) (n : Int) : rowZ 1 [[.int .i64 32], [.int .i64 48], [.int .i64 49], [.int .i64 57], [.int .i64 59], [.int .i64 110], [.int .i64 101], [.int .i64 65], [.int .i64 73], [.int .i64 x]] (pick l n 10) = some (rI (ix (T10 x) (pick l n 10))) := by
  have := @pick_rng l n 10 (by omega)
  exact rowZ_I _ (T10 x) this.1 this.2
theorem tab10a (x : Int) (l : S) (n : Int) : rowAt [[.int .i64 32], [.int .i64 48], [.int .i64 49], [.int .i64 57], [.int .i64 59], [.int .i64 110], [.int .i64 101], [.int .i64 65], [.int .i64 73], [.int .i64 x]] (pick l n 10) = some (rI (ix (T10 x) (pick l n 10))) := by
  have := @pick_rng l n 10 (by omega)
  exact rowAt_I (T10 x) _ this.1 this.2
section
variable (L D : Nat)
theorem t_odd (l : S) (hl : l.length ≤ 2000) (n k : Int) (hn : 0 ≤ n ∧ n ≤ 1000000) (hk : 1 ≤ k ∧ k < 9000) : ev E L (D + 2) 13 [.ptr (.imp 0) 0, .int .i64 k] [.cells [.sl (l.map rU), .int .i64 n]] =
    some (.bool (decide (pick l n k = k - 1)), [.cells [.sl (l.map rU), .int .i64 (n + 1)]]) := by
  rw [eq_13]
  have h0 : decide (k < 9000) = true := by rw [decide_eq_true_eq]; omega
  have a1 : iSub .i64 k 1 = k - 1 := iSub_w (by omega) (by omega)
  simp (disch := omega) only [bnd_some', br_true', gInt_i, gSl_r, cellAt_zero, cellAt_succ, hdO_c, iEq_dec, iLt_dec, gCellsN_if, if_true, List.length_cons, List.length_nil, Nat.reduceAdd, t_pick, h0, a1]
theorem t_Bent (l : S) (hl : l.length ≤ 2000) (s : S) (hs : s.length ≤ 700) (n : Int) (hn : 0 ≤ n ∧ n ≤ 1000000) : Gs l (ev E L (D + 2) 14 [.ptr (.imp 0) 0, .str (bs s)] [.cells [.sl (l.map rU), .int .i64 n]]) := by
  have h := eq_14 L (D + 1) (l.map rU) n (bs s)
  have a1 : iAdd .i64 (s.length : Int) 1 = (s.length : Int) + 1 := iAdd_w (by omega) (by omega)
  obtain ⟨k0, k1⟩ := @pick_rng l n ((s.length : Int) + 1) (by omega)
  have hp := t_pick L D l hl
  generalize hk : pick l n ((s.length : Int) + 1) = k at k0 k1
  have e0 : decide ((0 : Int) ≤ k) = true := by rw [decide_eq_true_eq]; omega
  have e1 : decide (k ≤ (s.length : Int)) = true := by rw [decide_eq_true_eq]; omega
  have ee : ∀ x : Int, decide (x ≤ x) = true := fun x => by rw [decide_eq_true_eq]; omega
  by_cases hlt : k < s.length
  · have e2 : decide (k < (s.length : Int)) = true := by rw [decide_eq_true_eq]; omega
    have a2 : iAdd .i64 k 1 = k + 1 := iAdd_w (by omega) (by omega)
    have e3 : decide ((0 : Int) ≤ k + 1) = true := by rw [decide_eq_true_eq]; omega
    have e4 : decide (k + 1 ≤ (s.length : Int)) = true := by rw [decide_eq_true_eq]; omega
    simp (disch := omega) only [bnd_some', br_true', gInt_i, gSl_r, cellAt_zero, cellAt_succ, hdO_c, iEq_dec, iLt_dec, iLe_dec, bAnd_r, sLen_bs, sCat_bs, sSub_ok, nrows_nil, nrows_cons, rowsStr_one, gCellsN_if, decide_true, if_true, List.length_cons, List.length_nil, Int.reduceLE, Nat.reduceAdd, Int.toNat_natCast, ↓dec_selfI, c_I0, hp, hk, a1, a2, e0, e1, e2, e3, e4, ee, tab10, tab10a, fits_true, List.length_append, List.length_take, List.length_drop] at h
    rw [h]
    repeat' (first | exact ⟨_, _, by simp only [List.length_append, List.length_take, List.length_drop, List.length_cons, List.length_nil]; omega, rfl⟩ | exact ⟨_, _, by omega, rfl⟩ | apply gs_br)
  · have e2 : decide (k < (s.length : Int)) = false := by rw [decide_eq_false_iff_not]; omega
    simp (disch := omega) only [bnd_some', br_true', br_false', gInt_i, gSl_r, cellAt_zero, cellAt_succ, hdO_c, iEq_dec, iLt_dec, iLe_dec, bAnd_r, sLen_bs, sCat_bs, sSub_ok, nrows_nil, nrows_cons, rowsStr_one, gCellsN_if, decide_true, if_true, List.length_cons, List.length_nil, Int.reduceLE, Nat.reduceAdd, Int.toNat_natCast, ↓dec_selfI, c_I0, hp, hk, a1, e0, e1, e2, ee, tab10, tab10a, fits_true, List.length_append, List.length_take, List.length_drop] at h
    rw [h]
    repeat' (first | exact ⟨_, _, by simp only [List.length_append, List.length_take, List.length_drop, List.length_cons, List.length_nil]; omega, rfl⟩ | exact ⟨_, _, by omega, rfl⟩ | apply gs_br)
theorem t_DrawTagNames (hL : 1099511627776 ≤ L) (l : S) : ∃ (s : S), s.length ≤ 701 ∧ ev E L (D + 315) 4 [.sl (l.map rU)] [] = some (.str (bs s), []) := by
  have hl : (l.take 2000).length ≤ 2000 := by simp; omega
  obtain ⟨w, n, z, hn, h⟩ := t_World L D hL (l.take 2000) hl
  obtain ⟨s, n1, hs, hn1, h1⟩ := t_Tag L (D + 312) hL (l.take 2000) hl w z n (by omega)
  have ho := t_Open L (D + 313) l
  have h1' : ev E L (D + 314) 11 [.ptr (.imp 0) 0, .agg [.ref (.imp 1) w.seats.length, .ref (.imp 2) w.waits.length, .ref (.imp 3) w.log.length, .ref (.imp 4) w.fresh.length, .ref (.imp 5) w.spy.length, .ref (.imp 6) w.stolen.length, .ref (.imp 7) w.frames.length, .ref (.imp 8) w.said.length, .ref (.imp 9) w.wins.length, .ref (.imp 10) w.told.length]] [.cells [.sl ((l.take 2000).map rU), .int .i64 n], .rows (w.seats.map rM), .rows (w.waits.map rWt), .rows (w.log.map rC), .rows (w.fresh.map rI), .rows (w.spy.map rS), .rows (w.stolen.map rSt), .rows (w.frames.map rF), .rows (w.said.map rI), .rows (w.wins.map rWs), .rows (w.told.map rT)] = _ := h1
  have h2 := t_odd L (D + 312) (l.take 2000) hl n1 4 (by omega) (by omega)
  obtain ⟨t, n3, ht, h3⟩ := t_Bent L (D + 312) (l.take 2000) hl s hs (n1 + 1) (by omega)
  have hn0 : newP 0 (.ptr (.imp 0) 0) = some () := rfl
  have hnt : ∀ (a : Obj) (l : List Obj), nthO (a :: l) 0 = a := fun _ _ => rfl
  rw [eq_4]
  by_cases hp : pick (l.take 2000) n1 4 = 4 - 1
  · have hp' : decide (pick (l.take 2000) n1 4 = 4 - 1) = true := by rw [decide_eq_true_eq]; exact hp
    refine ⟨t, ht, ?_⟩
    simp (disch := omega) only [bnd_some', br_true', gBool_b, gInt_i, gStr_s, gSl_r, gOwn_r, gRows_r, cellAt_zero, cellAt_succ, hdO_c, tlO_c, iEq_dec, nrows_map, gAggN_if, gCellsN_if, if_true, List.length_cons, List.length_nil, Nat.reduceAdd, ↓dec_selfI, ho, hn0, hnt, h, h1', h2, hp', h3]
  · have hp' : decide (pick (l.take 2000) n1 4 = 4 - 1) = false := by rw [decide_eq_false_iff_not]; exact hp
    refine ⟨s, by omega, ?_⟩
    simp (disch := omega) only [bnd_some', br_true', br_false', gBool_b, gInt_i, gStr_s, gSl_r, gOwn_r, gRows_r, cellAt_zero, cellAt_succ, hdO_c, tlO_c, iEq_dec, nrows_map, gAggN_if, gCellsN_if, if_true, List.length_cons, List.length_nil, Nat.reduceAdd, ↓dec_selfI, ho, hn0, hnt, h, h1', h2, hp']
end
end Kw
namespace Kw
open Go Go.Proofs
section
variable (L D : Nat)
theorem ext_TagNames (s : S) (hs : s.length ≤ 2000000) : ev E L (D + 1) 5 [.str (bs s)] [] = some (.own ((cutS [] s).map rS), []) := by
  have h : E.ext 5 = some tagQ := rfl
  have h2 : tagQ [.str (bs s)] = some (.own ((cutS [] s).map rS)) := by
    have e : (bs s).size ≤ 2000000 := hs
    have e2 : (bs s).data.toList = s := rfl
    unfold tagQ
    simp only [e, if_true, e2]
    rfl
  unfold ev
  simp only [h, h2]
  rfl
theorem lp_TagNames (s : S) (hs : s.length ≤ 2000000) : ∀ (m : Nat) (r a p : S) (done : List S), r.length < m → s = p ++ a ++ r → done.length ≤ p.length →
    LP_7_4 L D m (done.map rS) (bs s) done.length p.length (p ++ a).length = some (.sl ((done ++ cutS a r).map rS), [])
  | 0, r, _, _, _, h, _, _ => by omega
  | m + 1, r, a, p, done, h, e, hd => by
    rw [LP_7_4_succ]
    have hlen : s.length = (p ++ a).length + r.length := by rw [e]; simp; omega
    cases r with
    | nil =>
      have h8' : decide (((p ++ a).length : Int) < s.length) = false := by rw [decide_eq_false_iff_not]; simp only [List.length_nil] at hlen; omega
      have ec : cutS a [] = [] := rfl
      simp (disch := omega) only [br_true', br_false', iEq_dec, iLt_dec, sLen_bs, nrows_map, ↓dec_selfI, h8', ec, List.append_nil]
    | cons c r =>
      have hl2 : s.length = (p ++ a).length + r.length + 1 := by rw [hlen]; simp; omega
      have h8' : decide (((p ++ a).length : Int) < s.length) = true := by rw [decide_eq_true_eq]; omega
      have hix : ix s ((p ++ a).length : Int) = c := by
        rw [ix_nat s _ (by omega)]
        have : s[(p ++ a).length]? = some c := by rw [e, List.getElem?_append_right (by omega)]; simp
        exact (List.getElem?_eq_some_iff.1 this).2
      have hat : sAt (bs s) ((p ++ a).length : Int) = some ((c.toNat : Int)) := by rw [sAt_ok s _ (by omega) (by omega), hix]
      have a1 : iAdd .i64 ((p ++ a).length : Int) 1 = (((p ++ a).length + 1 : Nat) : Int) := iAdd_n1 _ (by omega)
      have pl : p.length ≤ (p ++ a).length := by simp
      by_cases hc : c = 59
      · subst hc
        have b1 : decide (((59 : UInt8).toNat : Int) = 59) = true := rfl
        have b2 : decide ((0 : Int) ≤ (p.length : Int)) = true := by rw [decide_eq_true_eq]; omega
        have b3 : decide ((p.length : Int) ≤ (((p ++ a).length + 1 : Nat) : Int)) = true := by rw [decide_eq_true_eq]; omega
        have b4 : decide ((((p ++ a).length + 1 : Nat) : Int) ≤ (s.length : Int)) = true := by rw [decide_eq_true_eq]; omega
        have sub : (s.take ((p ++ a).length + 1)).drop p.length = a ++ [59] := by
          have e1 : s.take ((p ++ a).length + 1) = p ++ (a ++ [59]) := by
            rw [e, List.take_append, List.take_of_length_le (by omega)]
            simp
          rw [e1]; simp
        have ih := lp_TagNames s hs m r [] (p ++ a ++ [59]) (done ++ [a ++ [59]]) (by simp at h; omega) (by rw [e]; simp) (by simp at hd pl ⊢; omega)
        rw [cutS_hit]
        have e3 : done ++ (a ++ [59]) :: cutS [] r = done ++ [a ++ [59]] ++ cutS [] r := by simp
        rw [e3, ← ih]
        have e5 : (p ++ a ++ [59]).length = (p ++ a).length + 1 := by simp; omega
        have e6 : (p ++ a ++ [59] ++ []).length = (p ++ a).length + 1 := by simp; omega
        rw [e5, e6]
        have b34 : decide ((p.length : Int) ≤ (((p ++ a).length + 1 : Nat) : Int) ∧ (((p ++ a).length + 1 : Nat) : Int) ≤ (s.length : Int)) = true := by rw [decide_eq_true_eq]; omega
        have hdl : done.length ≤ 2000000 := by omega
        simp (disch := omega) only [bnd_some', br_true', beq_self_eq_true, iEq_dec, iLt_dec, iLe_dec, bAnd_r, sLen_bs, sSub_ok, nrows_map, nrows_nil, nrows_cons, List.length_cons, List.length_nil, Nat.reduceAdd, Int.toNat_natCast, okR_S, okR_cons, okR_nil, Bool.and_self, ↓dec_selfI, cat1_S, h8', hat, b1, a1, b2, b3, b4, sub, fits_true]
      · have b1 : decide ((c.toNat : Int) = 59) = false := by
          rw [decide_eq_false_iff_not]
          intro h9
          exact hc (UInt8.toNat_inj.1 (by simpa using (by omega : c.toNat = 59)))
        have ih := lp_TagNames s hs m r (a ++ [c]) p done (by simp at h; omega) (by rw [e]; simp) hd
        rw [cutS_miss _ _ hc, ← ih]
        have e5 : (p ++ (a ++ [c])).length = (p ++ a).length + 1 := by simp; omega
        rw [e5]
        simp (disch := omega) only [bnd_some', br_true', br_false', iEq_dec, iLt_dec, sLen_bs, h8', hat, b1, a1]
theorem t_sTagNames (hL : 1099511627776 ≤ L) (s : S) (hs : s.length ≤ 2000000) : ev E L (D + 1) 7 [.str (bs s)] [] = some (.sl ((cutS [] s).map rS), []) := by
  rw [eq_7]
  have := lp_TagNames L D s hs L s [] [] [] (by omega) (by simp) (by simp)
  exact this
end
end Kw
namespace Kw
open Go Go.Proofs
def hasP (s t : S) : Bool := decide (t.length ≤ s.length) && decide (s.take t.length = t)
theorem hasP_app (s t : S) : hasP (s ++ t) s = true := by simp [hasP]
section
variable (L D : Nat)
theorem t_HasPrefix (s t : S) : ev E L (D + 1) 24 [.str (bs s), .str (bs t)] [] = some (.bool (hasP s t), []) := by
  rw [eq_24]
  unfold hasP
  by_cases h : t.length ≤ s.length
  · have h' : decide ((t.length : Int) ≤ s.length) = true := by rw [decide_eq_true_eq]; omega
    have a : sSub (bs s) 0 (t.length : Nat) = bs (s.take t.length) := by rw [sSub_ok]; rfl
    have b : sEq (bs (s.take t.length)) (bs t) = decide (s.take t.length = t) := sEq_bs _ _
    have c : bAnd (iLe 0 0) (bAnd (iLe 0 (t.length : Nat)) (iLe (t.length : Nat) (s.length : Nat))) = true := by
      simp [bAnd, iLe]; omega
    have d : iLe (t.length : Nat) (s.length : Nat) = true := h'
    rw [sLen_bs, sLen_bs, c, d, a, b]
    simp only [br_true', h, decide_true, Bool.true_and]
  · have d : iLe (t.length : Nat) (s.length : Nat) = false := by unfold iLe; rw [decide_eq_false_iff_not]; omega
    rw [sLen_bs, sLen_bs, d]
    simp only [br_false', h, decide_false, Bool.false_and]
theorem t_TagHas (s t : S) : ev E L (D + 3) 8 [.str (bs s), .str (bs t)] [] = some (.bool (hasP s t), []) := by
  have h2 : ev E L (D + 2) 17 [.str (bs s), .str (bs t)] [] = some (.bool (hasP s t), []) := by
    rw [eq_17]
    simp only [t_HasPrefix, bnd_some', gBool_b]
  rw [eq_8]
  simp only [h2, bnd_some', gBool_b]
theorem lp_keTexts (l : List S) (hl : l.length ≤ 2000000) : ∀ (m k : Nat), l.length < m + k → k ≤ l.length → LP_6_4 L D m (l.map rS) (l.map rS) k = some (.bool true, [])
  | 0, _, h, h2 => by omega
  | m + 1, k, h, h2 => by
    rw [LP_6_4_succ]
    by_cases hk : k < l.length
    · have h8' : decide ((k : Int) < l.length) = true := by rw [decide_eq_true_eq]; omega
      have ih := lp_keTexts l hl m (k + 1) (by omega) (by omega)
      rw [← ih]
      simp (disch := omega) only [bnd_some', br_true', br_false', gStr_s, bNot_t, iLt_dec, sEq_bs, nrows_map, ↓dec_selfS, c_S0, rowZ_S, h8', iAdd_n1]
    · have h8' : decide ((k : Int) < l.length) = false := by rw [decide_eq_false_iff_not]; omega
      simp (disch := omega) only [br_false', iLt_dec, nrows_map, h8']
theorem t_keTexts (hL : 1099511627776 ≤ L) (l : List S) (hl : l.length ≤ 2000000) : ev E L (D + 1) 6 [.sl (l.map rS), .sl (l.map rS)] [] = some (.bool true, []) := by
  rw [eq_6]
  have := lp_keTexts L D l hl L 0 (by omega) (by omega)
  rw [show ((0 : Nat) : Int) = 0 from rfl] at this
  simp (disch := omega) only [br_false', bNot_t, iEq_dec, nrows_map, ↓dec_selfI]
  exact this
theorem lp_names3 (hL : 1099511627776 ≤ L) (t : S) (ht : t.length ≤ 2000000) : ∀ (m i : Nat), t.length < m + i → i ≤ t.length → (∀ j : Nat, i ≤ j → j < t.length → ix t (j : Int) ≠ 59) → LP_3_23 L (D + 399) m (bs t) i = some (.bool true, [])
  | 0, _, h, h2, _ => by omega
  | m + 1, i, h, h2, hn => by
    rw [LP_3_23_succ]
    have h3 := t_keOk L (D + 392) hL
    by_cases hk : i < t.length
    · have h8' : decide ((i : Int) < t.length) = true := by rw [decide_eq_true_eq]; omega
      have ih := lp_names3 hL t ht m (i + 1) (by omega) (by omega) (fun j h1 h2 => hn j (by omega) h2)
      have b1 : decide (((ix t (i : Int)).toNat : Int) = 59) = false := by
        rw [decide_eq_false_iff_not]
        intro h9
        exact hn i (Nat.le_refl _) hk (UInt8.toNat_inj.1 (by simpa using (by omega : (ix t (i : Int)).toNat = 59)))
      rw [← ih]
      simp (disch := omega) only [bnd_some', br_true', br_false', iEq_dec, iLt_dec, sLen_bs, h8', b1, sAt_ok, iAdd_n1]
    · have h8' : decide ((i : Int) < t.length) = false := by rw [decide_eq_false_iff_not]; omega
      simp (disch := omega) only [bnd_some', br_false', gBool_b, iLt_dec, sLen_bs, h8', h3]
theorem lp_names2 (cs : List S) (t a p : S) (k n9 ql : Nat) (hk : k < cs.length) (hc : cs.length ≤ 2000000) (hx : ix cs (k : Int) = p) (hp : p.length = ql + 1) (hb : a.length + p.length ≤ 4000000) (h59 : ix p (ql : Int) = 59) (hne : ∀ i : Nat, i < ql → ix p (i : Int) ≠ 59) :
    ∀ (m i : Nat), ql + 2 ≤ m + i → i ≤ ql → LP_3_13 L D m n9 (cs.map rS) (bs t) cs.length (bs a) k 0 i = LP_3_9 L D n9 (cs.map rS) (bs t) cs.length (bs (a ++ p)) ((k + 1 : Nat) : Int)
  | 0, _, h, h2 => by omega
  | m + 1, i, h, h2 => by
    rw [LP_3_13_succ]
    have h8' : decide ((i : Int) < p.length) = true := by rw [decide_eq_true_eq]; omega
    by_cases hi : i < ql
    · have ih := lp_names2 cs t a p k n9 ql hk hc hx hp hb h59 hne m (i + 1) (by omega) (by omega)
      have b1 : decide (((ix p (i : Int)).toNat : Int) = 59) = false := by
        rw [decide_eq_false_iff_not]
        intro h9
        exact hne i hi (UInt8.toNat_inj.1 (by simpa using (by omega : (ix p (i : Int)).toNat = 59)))
      rw [← ih]
      simp (disch := omega) only [bnd_some', br_true', br_false', gStr_s, iEq_dec, iLt_dec, sLen_bs, nrows_map, ↓dec_selfI, c_S0, rowAt_S, rowZ_S, hx, h8', b1, sAt_ok, iAdd_n1]
    · have hi' : i = ql := by omega
      subst hi'
      obtain ⟨m2, rfl⟩ : ∃ m2, m = m2 + 1 := ⟨m - 1, by omega⟩
      have b1 : decide (((ix p (i : Int)).toNat : Int) = 59) = true := by rw [h59]; rfl
      have b2 : decide (((i + 1 : Nat) : Int) < p.length) = false := by rw [decide_eq_false_iff_not]; omega
      have a0 : iAdd .i64 0 1 = 1 := rfl
      have a1 : iSub .i64 (p.length : Int) 1 = (i : Int) := (iSub_w (by omega) (by omega)).trans (by omega)
      have a2 : decide ((1 : Int) = 1) = true := rfl
      simp (disch := omega) only [bnd_some', br_true', br_false', gStr_s, bNot_t, bNot_f, iEq_dec, iLt_dec, sLen_bs, sCat_bs, nrows_map, ↓dec_selfI, c_S0, rowAt_S, rowZ_S, hx, h8', b1, b2, a0, a1, sAt_ok, iAdd_n1, fits_true, LP_3_13_succ]
theorem lp_names1 (hL : 1099511627776 ≤ L) (cs : List S) (t rest : S) (ht : cs.flatten ++ rest = t) (hb : t.length ≤ 2000000) (hc : cs.length ≤ 2000000) (hp : ∀ p ∈ cs, ∃ q, p = q ++ [59] ∧ 59 ∉ q) (hr : 59 ∉ rest) :
    ∀ (m k : Nat), cs.length < m + k → k ≤ cs.length → LP_3_9 L (D + 399) m (cs.map rS) (bs t) cs.length (bs (cs.take k).flatten) k = some (.bool true, [])
  | 0, _, h, h2 => by omega
  | m + 1, k, h, h2 => by
    rw [LP_3_9_succ]
    by_cases hk : k < cs.length
    · have h8' : decide ((k : Int) < cs.length) = true := by rw [decide_eq_true_eq]; omega
      have ih := lp_names1 hL cs t rest ht hb hc hp hr m (k + 1) (by omega) (by omega)
      have hmem : ix cs (k : Int) ∈ cs := ix_mem cs k hk
      obtain ⟨q, hq, hq9⟩ := hp _ hmem
      have htk : (cs.take (k + 1)).flatten = (cs.take k).flatten ++ (q ++ [59]) := by
        rw [List.take_add_one, List.getElem?_eq_getElem hk, ← ix_nat cs k hk, hq]
        simp
      have hlen : (cs.take k).flatten.length + (q ++ [59]).length ≤ 4000000 := by
        have e1 : (cs.take (k + 1)).flatten ++ (cs.drop (k + 1)).flatten = cs.flatten := by rw [← List.flatten_append, List.take_append_drop]
        have e2 := congrArg List.length e1
        have e3 := congrArg List.length ht
        have e4 := congrArg List.length htk
        simp only [List.length_append] at e2 e3 e4 ⊢
        omega
      have hql : (q ++ [59]).length = q.length + 1 := by simp
      have h59 : ix (q ++ [59]) (q.length : Int) = 59 := by rw [ix_nat _ _ (by omega)]; simp
      have hne : ∀ i : Nat, i < q.length → ix (q ++ [59]) (i : Int) ≠ 59 := fun i hi e => by
        rw [ix_nat _ _ (by omega), List.getElem_append_left hi] at e
        exact hq9 (e ▸ List.getElem_mem hi)
      have h2 := lp_names2 L (D + 399) cs t (cs.take k).flatten (q ++ [59]) k m q.length hk hc hq hql hlen h59 hne L 0 (by omega) (by omega)
      rw [← htk, ih, show ((0 : Nat) : Int) = 0 from rfl] at h2
      simp (disch := omega) only [br_true', iEq_dec, iLt_dec, nrows_map, ↓dec_selfI, h8', h2]
    · have hk' : k = cs.length := by omega
      subst hk'
      have h8' : decide ((cs.length : Int) < cs.length) = false := by rw [decide_eq_false_iff_not]; omega
      have h1 := t_TagHas L (D + 396) t cs.flatten
      have hh : hasP t cs.flatten = true := by rw [← ht]; exact hasP_app _ _
      have h3 := lp_names3 L D hL t hb L cs.flatten.length (by omega) (by rw [← ht]; simp) (fun j j1 j2 e => by
        rw [ix_nat _ _ j2] at e
        subst ht
        rw [List.getElem_append_right j1] at e
        exact hr (e ▸ List.getElem_mem _))
      rw [hh] at h1
      rw [List.take_length]
      simp (disch := omega) only [bnd_some', br_true', br_false', gBool_b, bNot_t, iEq_dec, iLt_dec, sLen_bs, nrows_map, ↓dec_selfI, h8', h1, h3]
theorem t_FnTagNames (hL : 1099511627776 ≤ L) (l : S) : ev E L (D + 400) 3 [.sl (l.map rU)] [] = some (.bool true, []) := by
  rw [eq_3]
  obtain ⟨s, hs, h⟩ := t_DrawTagNames L (D + 84) hL l
  have h1 := ext_TagNames L (D + 398) s (by omega)
  have h2 := t_sTagNames L (D + 398) hL s (by omega)
  have hcl : (cutS [] s).length ≤ 2000000 := by
    have : (cutS [] s).length ≤ s.length := by rw [cutS_count]; exact List.count_le_length
    omega
  have h3 := t_keTexts L (D + 398) hL (cutS [] s) hcl
  have hj := cutS_join s []
  rw [List.nil_append] at hj
  have h4 := lp_names1 L D hL (cutS [] s) s (restS [] s) hj (by omega) hcl (cutS_piece s [] (by simp)) (restS_no s [] (by simp)) L 0 (by omega) (by omega)
  rw [List.take_zero, List.flatten_nil, show ((0 : Nat) : Int) = 0 from rfl] at h4
  by_cases hb : iLt 1048576 (nrows (l.map rU)) = true
  · rw [hb]; rfl
  · rw [Bool.not_eq_true] at hb
    rw [hb]
    simp (disch := omega) only [br_false', h, bnd_some', br_true', br_false', gBool_b, gStr_s, gSl_r, gOwn_r, bNot_t, iEq_dec, nrows_map, ↓dec_selfI, h1, h2, h3, h4]
end
end Kw
