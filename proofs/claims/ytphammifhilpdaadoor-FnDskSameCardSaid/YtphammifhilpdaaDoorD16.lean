import Derived.Test.YtphammifhilpdaaDoorD15
namespace Kw
set_option linter.unusedVariables false
set_option linter.unusedSimpArgs false
set_option linter.unusedSectionVars false
/-! the tree -/
def treLeaf (w : Int) : Int := if isWho w then 7 + w else -1
def ups (i : Nat) : List Int := if h : i = 0 then [] else (((i - 1) / 2 : Nat) : Int) :: ups ((i - 1) / 2)
def isNode (n : Int) : Prop := 0 ≤ n ∧ n ≤ 14
instance (w : Int) : Decidable (isNode w) := inferInstanceAs (Decidable (_ ∧ _))
def treUp (n : Int) : List Int := if isNode n then ups n.toNat else []
def treSide (n : Int) : Int := if 1 ≤ n ∧ n ≤ 14 then (if n % 2 = 1 then n + 1 else n - 1) else -1
def meetN : Nat → Nat → Nat → Nat
  | 0, a, _ => a
  | f + 1, a, b => if a = b then a else if b < a then meetN f ((a - 1) / 2) b else meetN f a ((b - 1) / 2)
def treMeet (a b : Int) : Int := if isNode a ∧ isNode b then (meetN 30 a.toNat b.toNat : Nat) else -1
def treOk (keys : List S) : Bool := decide (keys.length = 15) && keys.all fun k => decide (k = []) || isKey k
def treNew : List S := List.replicate 15 []
def coverN : Nat → List S → Nat → List Int
  | 0, _, _ => []
  | f + 1, ks, n => if ix ks n ≠ [] then [(n : Int)] else if 7 ≤ n then [] else coverN f ks (2 * n + 1) ++ coverN f ks (2 * n + 2)
def cover (ks : List S) (n : Int) : List Int := coverN 5 ks n.toNat
def pathOf (w : Int) : List Int := treLeaf w :: treUp (treLeaf w)
def clr (ks : List S) (w : Int) : List S := (pathOf w).foldl (fun ks n => ks.set n.toNat []) ks
def setGo : List Int → S → List S → List S
  | [], _, ks => ks
  | n :: ns, s, ks => setGo ns (makNext s) (ks.set n.toNat (makKey s))
def setK (ks : List S) (w : Int) (s : S) : List S := setGo (pathOf w) s ks
/-! who is in a group -/
def ownOf (own : List Own) (n : Int) : S := match own.find? (fun o => o.node == n) with | some o => o.sec | none => []
def pathGo : List Int → S → List Own
  | [], _ => []
  | n :: ns, s => ⟨n, s⟩ :: pathGo ns (makNext s)
def secPath (n : Int) (s : S) : List Own := pathGo (n :: treUp n) s
def fitsAt (m : Member) (k : Nat) : Bool :=
  decide ((ix m.own k).node ∈ pathOf m.who) && (secOk (ix m.own k).sec && (decide (ix m.keys (ix m.own k).node ≠ []) && (decide (ix m.keys (ix m.own k).node = makKey (ix m.own k).sec) && decide (ownOf (m.own.take k) (ix m.own k).node = []))))
def fitsAll (m : Member) : Bool := (List.range m.own.length).all (fitsAt m)
def hasAll (m : Member) : Bool := ((pathOf m.who).all fun n => decide (ix m.keys n = []) || decide (ownOf m.own n ≠ [])) && decide (ix m.keys (treLeaf m.who) ≠ [])
def memOk (m : Member) : Bool :=
  if m.inn = false then decide (m.who = 0 ∧ m.keys = [] ∧ m.own = [] ∧ m.epoch = 0 ∧ m.init = [] ∧ m.tag = [])
  else decide (isWho m.who) && (treOk m.keys && (fitsAll m && (hasAll m && (decide (0 ≤ m.epoch ∧ m.epoch ≤ 12) && (secOk m.init && decide (m.tag.length ≤ 300))))))
def noMember : Member := ⟨false, 0, [], [], 0, [], []⟩
def memFirst (w : Int) (leaf init : S) : Member :=
  if isWho w ∧ secOk leaf = true ∧ secOk init = true ∧ leaf.length ≤ 292 then ⟨true, w, setK treNew w leaf, secPath (treLeaf w) leaf, 0, init, []⟩ else noMember
def memKnows (m : Member) : List S := if memOk m = true ∧ m.inn = true then m.own.map (·.sec) ++ [m.init] else []
def baseT (ks : List S) (add remove : Int) (leaf : S) : List S :=
  let ks := if 0 ≤ remove then clr ks remove else ks
  if 0 ≤ add then (clr ks add).set (treLeaf add).toNat leaf else ks
def someone (n who : Int) : Prop := -1 ≤ n ∧ n ≤ 7 ∧ n ≠ who
instance (a b : Int) : Decidable (someone a b) := inferInstanceAs (Decidable (_ ∧ _ ∧ _))
def hasLeaf (ks : List S) (w : Int) : Bool := decide (ix ks (treLeaf w) ≠ [])
/-- keys of who comes -/
def twoKeys (add : Int) (leaf key : S) : Bool := if add < 0 then decide (leaf = [] ∧ key = []) else isKey leaf && (isKey key && decide (leaf ≠ key))
def changes (ks : List S) (add remove : Int) : Bool := (decide (remove < 0) || hasLeaf ks remove) && (decide (add < 0) || (!hasLeaf ks add || decide (add = remove)))
def may (m : Member) (add remove : Int) (leaf key : S) : Bool :=
  m.inn && (decide (m.epoch < 12 ∧ someone add m.who ∧ someone remove m.who) && (changes m.keys add remove && twoKeys add leaf key))
/-- boxes of one place's cover -/
def boxesAt (ks : List S) (add : Int) (sec : S) (cov : List Int) : List Box := (cov.filter fun n => decide (add < 0 ∨ n ≠ treLeaf add)).map fun n => ⟨ix ks n, sec⟩
def boxesGo (ks : List S) (add : Int) : List Own → List Box
  | a :: b :: r => boxesAt ks add b.sec (cover ks (treSide a.node)) ++ boxesGo ks add (b :: r)
  | _ => []
def noCommit : Commit := ⟨0, [], [], 0, 0, [], [], [], [], [], [], [], []⟩
def commitM (m : Member) (fresh : S) (add remove : Int) (leaf _key : S) : Member :=
  let own := secPath (treLeaf m.who) fresh
  ⟨true, m.who, setK (baseT m.keys add remove leaf) m.who fresh, own, m.epoch + 1, makEpoch m.init (makNext (ix own (own.length - 1)).sec), m.tag ++ fresh⟩
def commitC (m : Member) (fresh : S) (add remove : Int) (leaf key : S) : Commit :=
  let base := baseT m.keys add remove leaf
  let own := secPath (treLeaf m.who) fresh
  let x := commitM m fresh add remove leaf key
  let w := if 0 ≤ add then (key, key, x.init, key, ownOf x.own (treMeet (treLeaf add) (treLeaf m.who))) else ([], [], [], [], [])
  ⟨m.who, m.tag, fresh, add, remove, leaf, x.keys, boxesGo base add own, w.1, w.2.1, w.2.2.1, w.2.2.2.1, w.2.2.2.2⟩
def commitOk (m : Member) (fresh : S) (add remove : Int) (leaf key : S) : Bool :=
  memOk m && (decide ((secMade fresh).op = 1) && (may m add remove leaf key && (decide (m.tag.length + fresh.length ≤ 300) && decide (m.init.length ≤ 280))))
def memCommit (m : Member) (fresh : S) (add remove : Int) (leaf key : S) : Option (Member × Commit) :=
  if commitOk m fresh add remove leaf key = true then some (commitM m fresh add remove leaf key, commitC m fresh add remove leaf key) else none
/-! commits -/
def boxesOk (b : List Box) : Bool := decide (b.length ≤ 400) && b.all fun x => secOk x.key && secOk x.sec
def cmtOk (c : Commit) : Bool :=
  decide (isWho c.sender ∧ (secMade c.name).op = 1 ∧ c.tag.length + c.name.length ≤ 300 ∧ someone c.add c.sender ∧ someone c.remove c.sender) && (treOk c.keys && (boxesOk c.boxes && (decide (c.boxes.length ≤ 20) &&
    (if c.add < 0 then decide (c.leaf = [] ∧ c.wkey = [] ∧ c.wik = [] ∧ c.wis = [] ∧ c.wsk = [] ∧ c.wss = [])
     else isKey c.leaf && (isKey c.wkey && (decide (c.leaf ≠ c.wkey ∧ c.wik = c.wkey ∧ c.wsk = c.wkey) && (secOk c.wis && secOk c.wss)))))))
def opens (own : List Own) (k : S) : Bool := own.any fun o => decide (makKey o.sec = k)
def findBox (own : List Own) : List Box → S
  | [] => []
  | b :: r => if opens own b.key = true then b.sec else findBox own r
def keeps (ks : List S) (own : List Own) : List Own := own.filter fun o => decide (ix ks o.node = makKey o.sec)
def freshOk (ks : List S) (path : List Own) : Bool := path.all fun o => decide (ix ks o.node = makKey o.sec)
def under (own path : List Own) : List Own := own.filter fun o => decide (ownOf path o.node = [])
def overlay (c : List S) (path : List Int) (t : List S) : List S := path.foldl (fun t n => t.set n.toNat (ix c n)) t
def fitsTree (m : Member) (c : Commit) : Bool := decide (c.keys = overlay c.keys (pathOf c.sender) (baseT m.keys c.add c.remove c.leaf))
def takes (m : Member) (c : Commit) : Bool :=
  m.inn && (decide (c.tag = m.tag ∧ m.epoch < 12 ∧ c.sender ≠ m.who) && (hasLeaf m.keys c.sender && (changes m.keys c.add c.remove && fitsTree m c)))
def hearM (m : Member) (c : Commit) (s : S) : Member :=
  let path := secPath (treMeet (treLeaf m.who) (treLeaf c.sender)) s
  ⟨true, m.who, c.keys, keeps c.keys (under m.own path) ++ path, m.epoch + 1, makEpoch m.init (makNext (ix path (path.length - 1)).sec), m.tag ++ c.name⟩
def hearPair (m : Member) (c : Commit) : Member × Bool :=
  let s := findBox m.own c.boxes
  if s = [] ∨ 292 < s.length then (m, false) else
    if freshOk c.keys (secPath (treMeet (treLeaf m.who) (treLeaf c.sender)) s) = true then (hearM m c s, secOk (hearM m c s).init) else (m, false)
/-- behind a commit, and whether it was heard -/
def memHear (m : Member) (c : Commit) : Member × Bool :=
  if memOk m = true ∧ cmtOk c = true then
    if takes m c = true then
      if c.remove = m.who then (noMember, true) else
        if (hearPair m c).2 = true then ((hearPair m c).1, true) else (m, false)
    else (m, false)
  else (noMember, false)
def count (s : S) : Nat := (s.filter (· == 59)).length
def joinM (w : Int) (leaf : S) (c : Commit) : Member :=
  ⟨true, w, c.keys, ⟨treLeaf w, leaf⟩ :: secPath (treMeet (treLeaf w) (treLeaf c.sender)) c.wss, count c.tag + 1, c.wis, c.tag ++ c.name⟩
def memJoin (w : Int) (leaf key : S) (c : Commit) : Option Member :=
  if cmtOk c = true ∧ 0 ≤ c.add ∧ c.add = w ∧ secOk leaf = true ∧ secOk key = true ∧ makKey leaf = c.leaf ∧ makKey key = c.wkey ∧ c.wss.length ≤ 292 ∧ memOk (joinM w leaf c) = true then some (joinM w leaf c) else none
/-! frames -/
def fraText (s : S) : Bool := decide (s.length ≤ 8) && s.all fun b => decide (97 ≤ b.toNat ∧ b.toNat ≤ 122)
def fraOk (f : Frame) : Bool := decide (isWho f.src ∧ (secMade f.key).op = 5 ∧ (secMade f.key).who = f.src ∧ 1 ≤ f.n ∧ f.n ≤ 999) && fraText f.text
def fraMake (m : Member) (n : Int) (text : S) : Option Frame :=
  if memOk m = true ∧ m.inn = true ∧ 1 ≤ n ∧ n ≤ 999 ∧ fraText text = true ∧ makSay m.init m.who ≠ [] then some ⟨m.who, makSay m.init m.who, n, text⟩ else none
def winOk (w : Win) : Bool :=
  decide ((secMade w.key).op = 5 ∧ 1 ≤ w.top ∧ w.top ≤ 999 ∧ w.seen ≠ [] ∧ ix w.seen 0 = w.top) && ((List.range w.seen.length).all fun k => decide (k = 0 ∨ (ix w.seen k < ix w.seen (k - 1 : Nat) ∧ w.top - 8 < ix w.seen k ∧ 1 ≤ ix w.seen k)))
def seenGo (n top : Int) : List Int → Bool → List Int
  | [], d => if d then [] else [n]
  | x :: r, d => (if d = false ∧ x < n then [n] else []) ++ (if top - 8 < x then [x] else []) ++ seenGo n top r (d || decide (x < n))
def winTake (w : Win) (n : Int) : Option Win :=
  if n ≤ w.top - 8 ∨ n ∈ w.seen then none else some ⟨w.key, max w.top n, seenGo n (max w.top n) w.seen false⟩
def winAt : List Win → S → Nat → Int
  | [], _, _ => -1
  | w :: r, key, k => if w.key = key then k else winAt r key (k + 1)
def hears (m : Member) (f : Frame) : Bool := m.inn && (fraOk f && (decide (f.src ≠ m.who) && (hasLeaf m.keys f.src && decide (f.key = makSay m.init f.src))))
def fraGet (m : Member) (wins : List Win) (f : Frame) : Option (List Win) :=
  if hears m f = true then
    let k := winAt wins f.key 0
    if k < 0 then some (wins ++ [⟨f.key, f.n, [f.n]⟩]) else
      match winTake (ix wins k) f.n with
      | some x => some (wins.set k.toNat x)
      | none => none
  else none
/-! worlds -/
def noWorld : World := ⟨[], [], [], [], [], [], [], [], [], []⟩
def grpNew (w : Int) : World :=
  if isWho w then
    ⟨(List.range 8).map fun (k : Nat) => if (k : Int) = w then memFirst w (makNew w 1) (makNew w 2) else noMember, [], [],
     (List.range 8).map fun (k : Nat) => if (k : Int) = w then 2 else 0, [], [], [], List.replicate 8 0, List.replicate 8 [], []⟩
  else noWorld
def set1 {A : Type} (l : List A) (i : Int) (x : A) : List A := l.set i.toNat x
def commitEnd (w : World) (e : Event) (lf ky : S) : World :=
  match memCommit (ix w.seats e.who) (makNew e.who (ix w.fresh e.who + 1)) e.add e.remove (makKey lf) (makKey ky) with
  | none => w
  | some (m, c) =>
    { w with seats := set1 w.seats e.who m, log := w.log ++ [c], fresh := if 0 ≤ e.add then set1 (set1 w.fresh e.who (ix w.fresh e.who + 1)) e.add (ix (set1 w.fresh e.who (ix w.fresh e.who + 1)) e.add + 2) else set1 w.fresh e.who (ix w.fresh e.who + 1),
             waits := if 0 ≤ e.add then w.waits ++ [⟨e.add, w.log.length, lf, ky⟩] else w.waits }
def stepCommit (w : World) (e : Event) : World :=
  if w.log.length = 16 ∨ 99 ≤ ix w.fresh e.who ∨ ¬ (-1 ≤ e.add ∧ e.add ≤ 7) ∨ (0 ≤ e.add ∧ 98 ≤ ix w.fresh e.add) then w else
    if 0 ≤ e.add then commitEnd w e (makNew e.add (ix w.fresh e.add + 1)) (makNew e.add (ix w.fresh e.add + 2)) else commitEnd w e [] []
def stepHear (w : World) (who pos : Int) : World :=
  let r := memHear (ix w.seats who) (ix w.log pos)
  if r.2 = true then { w with seats := set1 w.seats who r.1 } else w
def joinGo (w : World) (who pos : Int) : List Wait → Nat → World
  | [], _ => w
  | x :: r, k => if x.who = who ∧ x.pos = pos then
      (match memJoin who x.leaf x.key (ix w.log pos) with
       | some m => { w with seats := set1 w.seats who m, waits := w.waits.eraseIdx k }
       | none => joinGo w who pos r (k + 1))
    else joinGo w who pos r (k + 1)
def stepJoin (w : World) (who pos : Int) : World := if (ix w.seats who).inn = true then w else joinGo w who pos w.waits 0
def stepSteal (w : World) (who : Int) : World :=
  if (ix w.seats who).inn = false ∨ w.stolen.length = 12 then w else { w with spy := w.spy ++ memKnows (ix w.seats who), stolen := w.stolen ++ [⟨who, (ix w.seats who).tag⟩] }
def stepSay (w : World) (who : Int) (text : S) : World :=
  if w.frames.length = 40 ∨ ix w.said who = 999 then w else
    match fraMake (ix w.seats who) (ix w.said who + 1) text with
    | some f => { w with frames := w.frames ++ [f], said := set1 w.said who (ix w.said who + 1) }
    | none => w
def stepGet (w : World) (who pos : Int) : World :=
  if w.told.length = 320 then w else
    match fraGet (ix w.seats who) (ix w.wins who) (ix w.frames pos) with
    | some x => { w with wins := set1 w.wins who x, told := w.told ++ [⟨who, pos⟩] }
    | none => w
def step (w : World) (e : Event) : World :=
  if isWho e.who then
    if e.kind = 1 then stepCommit w e
    else if e.kind = 4 then stepSteal w e.who
    else if e.kind = 5 then stepSay w e.who e.text
    else if e.kind = 2 then (if 0 ≤ e.pos ∧ e.pos < w.log.length then stepHear w e.who e.pos else w)
    else if e.kind = 3 then (if 0 ≤ e.pos ∧ e.pos < w.log.length then stepJoin w e.who e.pos else w)
    else if e.kind = 6 then (if 0 ≤ e.pos ∧ e.pos < w.frames.length then stepGet w e.who e.pos else w)
    else w
  else w
end Kw
