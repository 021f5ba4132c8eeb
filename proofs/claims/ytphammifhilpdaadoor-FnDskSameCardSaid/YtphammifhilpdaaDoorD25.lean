/- The card of this law, proved: whatever the input, the call answers true, and each argument reads as it did; no condition but the row's own. -/
import Derived.Test.YtphammifhilpdaaDoorCards
import Derived.Test.YtphammifhilpdaaDoorTie
import Derived.WalkKit
import Derived.ProofKit
import Derived.OpenShut
import Derived.LaidMore
import Derived.Lay
import Derived.SevenTiedAt
import Derived.Stop.Joined
import Derived.ChangeOld
import Derived.Carry
import Derived.Below
import Derived.SizedLaws
import Derived.Test.YtphammifhilpdaaDoorD24
import Derived.Test.YtphammifhilpdaaDoorD09
import Derived.Test.YtphammifhilpdaaDoorD08
namespace Go.Proofs.YtphammifhilpdaaDoor.fnDskSame
open Go Go.ChangeShapes Go.WideShapes Go.ChangeAt Go.RowKit
theorem own : ownKnob Tryd.prog.godebug = none := by kernel_rfl
theorem laidOut : laidOutB Tryd.prog = true := by kernel_rfl
theorem cells5 : Tryd.prog.cellsOf 5 = 1 := by kernel_rfl
theorem enter (args : Array Value) (W : World) : (callFunc 4 args).run Tryd.prog W = .ok (.enter 4 args) W := Kw.run_enter (c := Kw.body Tryd.f4) Tryd.func4 (by kernel_rfl) (by kernel_rfl) _ _
theorem gN0 : Tryd.prog.globalNamed "loop.example/keyward/impl.eventWords" = some 0 := by kernel_rfl
theorem gT0 : (Tryd.prog.globals[0]?).map (·.type) = some 22 := by kernel_rfl
theorem gN1 : Tryd.prog.globalNamed "strconv.ErrSyntax" = some 1 := by kernel_rfl
theorem gT1 : (Tryd.prog.globals[1]?).map (·.type) = some 58 := by kernel_rfl
theorem gN2 : Tryd.prog.globalNamed "strconv.ErrRange" = some 2 := by kernel_rfl
theorem gT2 : (Tryd.prog.globals[2]?).map (·.type) = some 58 := by kernel_rfl
theorem cells9 : Tryd.prog.cellsOf 9 = 1 := by kernel_rfl
theorem globs {W : World} (h : laidMet Tryd.prog Rows.fnDskSameRow.laid W) : Kw.GlobOk (Kw.there W) W := fun v m e => by
  match v, e with
  | 0, e =>
    cases e
    exact Kw.glob_strs (ws := [[], Kw.wCommit, Kw.wHear, Kw.wJoin, Kw.wSteal, Kw.wSay, Kw.wGet]) h (.tail _ (.tail _ (.tail _ (.tail _ (.tail _ (.tail _ (.head _))))))) gN0 gT0 Tryd.underlying22 Tryd.underlying9 cells9
  | 1, e =>
    cases e
    exact Kw.glob_err h (.tail _ (.tail _ (.tail _ (.tail _ (.tail _ (.head _)))))) gN1 gT1 Tryd.underlying58
  | 2, e =>
    cases e
    exact Kw.glob_err h (.tail _ (.tail _ (.tail _ (.tail _ (.head _))))) gN2 gT2 Tryd.underlying58
  | _ + 3, e => cases e
/-- the variable's words, read: one cell, which reads alike behind what lays new memory alone -/
theorem words_read {H : Type} {enc : TypeId × Value → H} {W : World} {g t : Nat} {cs : Array Value} {fuel : Nat} {d : DataW H} {p : List MemPlace}
    (hg : Tryd.prog.globalNamed "loop.example/keyward/impl.eventWords" = some g) (ht : (Tryd.prog.globals[g]?).map (·.type) = some t) (hv : W.var? Tryd.prog "loop.example/keyward/impl.eventWords" = some cs)
    (hd : DataW.trod enc Tryd.prog W 0 (fun _ => true) true fuel t cs.toList = some (d, p)) :
    ∃ x : Value, cs.toList = x.cells.toList ∧ DataW.Trod enc Tryd.prog W 0 (fun _ => true) true t x d p ∧ ∀ W' : World, Below W.heap.size W W' →
      DataW.TrodVars enc Tryd.prog W' (fun b => decide (b < W.heap.size)) ["loop.example/keyward/impl.eventWords"] [d] (MemPlace.row ⟨g, 0, none⟩ cs.size ++ p) := by
  obtain rfl := Option.some.inj (gN0.symm.trans hg)
  obtain rfl := Option.some.inj (gT0.symm.trans ht)
  have hx : ∃ x : Value, cs.toList = x.cells.toList := by
    rcases DataW.trod_slice Tryd.underlying22 hd with ⟨e, _⟩ | ⟨a, len, cap, _, _, _, _, e, _⟩
    · exact ⟨.slice none 0 0, e⟩
    · exact ⟨.slice (some a) len cap, e⟩
  obtain ⟨x, e⟩ := hx
  have hT : DataW.Trod enc Tryd.prog W 0 (fun _ => true) true 22 x d p := ⟨fuel, by rw [← e]; exact hd⟩
  refine ⟨x, e, hT, fun W' bel => ?_⟩
  have hlt : ∀ y ∈ p, y.block < W.heap.size := fun y hy => DataW.trod_lt _ _ _ _ hd y hy
  obtain ⟨f', h'⟩ := bel.trod laidOut (by kernel_rfl) (of_decide_eq_true (by kernel_rfl)) hT hlt
  rw [← e] at h'
  have hv' : W'.var? Tryd.prog "loop.example/keyward/impl.eventWords" = some cs := by
    unfold World.var? at hv ⊢
    rw [gN0] at hv ⊢
    simp only [Option.bind_some] at hv ⊢
    have h0 : 0 < W.heap.size := by
      rcases Nat.lt_or_ge 0 W.heap.size with h | h
      · exact h
      · simp [Array.getElem?_eq_none h] at hv
    rw [bel.block 0 h0]
    exact hv
  exact trodVars_mk1 gN0 gT0 hv' h'
set_option maxRecDepth 100000 in
theorem lifted (os : Os) (started : os.Started) (H : Type) (enc : TypeId × Value → H) :
    ReturnsInHanded {} Tryd.checked os 4 .any (fun w args => (Rows.fnDskSameSpec.pre enc Tryd.prog Tryd.f4 Rows.fnDskSameRow.domain false w args ∧ laidMetH Tryd.prog Rows.fnDskSameRow.laid w) ∧ sizedMet enc Tryd.prog Tryd.f4 (OpenSpec.ofChange Rows.fnDskSameSpec) false w args)
      (Rows.fnDskSameSpec.post enc Tryd.prog Tryd.f4 false true false false) := by
  refine returnsInHanded_of_change_and (C := Tryd.checked) (X := fun w _ => laidMetH Tryd.prog Rows.fnDskSameRow.laid w) (fun _ _ _ hh h => h.of_heap hh) own started (by kernel_rfl) Tryd.func4
    (ChangeSpec.witness_shaped (enc := enc) (C := Tryd.checked) (os := os) (X := fun w _ => laidMetH Tryd.prog Rows.fnDskSameRow.laid w) false (World.laidAll Tryd.prog os Rows.fnDskSameRow.laid) #[.slice none 0 0, .slice none 0 0] 8 (World.laidAll_os _ _ _)
      (World.shaped_of_ZipB (by kernel_rfl) (by kernel_rfl)) (by kernel_rfl) (by kernel_rfl) (by kernel_rfl)
      (by rw [MakeChecks.laidMetH_plain _ _ _ (by kernel_rfl)]; exact laidMet_laidAll _ (by kernel_rfl) (by kernel_rfl))) ?_
  intro W base args ds gs before hval0 hW hcnd _ hX _
  have hval : ∀ (j : Nat) t v, Tryd.f4.params[j]? = some t → args[j]? = some v → Value.okWide Tryd.prog W .any base t v := hval0
  have hW' := hW
  obtain ⟨p, q, hA0, hV, rfl, hfz, hnd⟩ := hW
  have hA : DataW.TrodAll enc Tryd.prog W 0 (fun _ => true) true Tryd.f4.params.toList args.toList ds p := hA0
  rw [Tryd.params4] at hA hval
  obtain ⟨v0, vs0, d0, ds0, p0, q0, hargs, rfl, rfl, h0, r0⟩ := trodAll_cons hA
  obtain ⟨v1, vs1, d1, ds1, p1, q1, rfl, rfl, rfl, h1, r1⟩ := trodAll_cons r0
  obtain ⟨rfl, rfl, rfl⟩ := trodAll_nil r1
  obtain rfl : args = #[v0, v1] := by cases args; simp_all
  rw [MakeChecks.laidMetH_plain _ _ _ (by kernel_rfl)] at hX
  obtain ⟨g, t, cs, fuel, dv, pv, rfl, hg, ht, hvar, hd, rfl⟩ := trodVars_one hV
  obtain ⟨x, ecs, hT, hback⟩ := words_read hg ht hvar hd
  obtain ⟨l0, s0⟩ := Kw.open_u8s Tryd.underlying27 Tryd.underlying5 cells5 (hval 0 27 v0 rfl rfl) h0
  obtain ⟨l1, s1⟩ := Kw.open_u8s Tryd.underlying27 Tryd.underlying5 cells5 (hval 1 27 v1 rfl rfl) h1
  clear hA0 hval0
  have lt0 : ∀ x ∈ p0, x.block < W.heap.size := by
    obtain ⟨fuel, hf⟩ := h0
    exact fun x hx => DataW.trod_lt _ _ _ _ hf x hx
  have lt1 : ∀ x ∈ p1, x.block < W.heap.size := by
    obtain ⟨fuel, hf⟩ := h1
    exact fun x hx => DataW.trod_lt _ _ _ _ hf x hx
  have law := Kw.law_of (Kw.run_ok 62) (Kw.t_FnDskSame l0 l1) (.cons s0 (.cons s1 .nil)) (enter _ W) (globs hX)
  refine law.mono fun e W' ⟨he, bel⟩ => ?_
  subst he
  exact ⟨_, rfl, _, _, _, [], _, _, hW', trodAll_mk1 (shut_bool Tryd.underlying4 _), (trodAll_cons_mk (bel.trod laidOut (by kernel_rfl) (of_decide_eq_true (by kernel_rfl)) h0 (fun x hx => lt0 x hx)) (trodAll_cons_mk (bel.trod laidOut (by kernel_rfl) (of_decide_eq_true (by kernel_rfl)) h1 (fun x hx => lt1 x hx)) trodAll_mk0)), hback W' bel, bel.frame _, fun h => by cases h⟩
theorem holds : Rows.FnDskSameSaid :=
  OpenClaim.holds_of_wide 4 Tryd.f4 rfl rfl rfl rfl rfl rfl rfl ⟨rfl, rfl, rfl, rfl, rfl⟩ rfl rfl rfl rfl rfl (by kernel_rfl) Tryd.func4 (by kernel_rfl)
    (of_decide_eq_true (by kernel_rfl)) (by unfold Func.isWrapper; first | (rw [if_pos (by decide +kernel)]; kernel_rfl) | (rw [if_neg (by decide +kernel)]; exact ⟨rfl, rfl⟩))
    (fun os started H enc _ => lifted os started H enc)
theorem card : Rows.FnDskSameCardSaid :=
  Claim7.holds_tied_plain_at .later [] [.data, .data, .data, .data, .sentinel, .sentinel, .widerDeep, .pinned] true (true, "efcb483285fc18fb89e6bcf767f90ee86f06f8349d9784c22cc6c5f69a8ed66a") true holds (fun _ h => by cases h) (by kernel_rfl) (fun _ h => by cases h) fnDskSame_row_tie rfl ⟨rfl, rfl⟩ (by kernel_rfl) rfl
    (fun f fn hf hfn => by
      obtain rfl : f = 4 := Option.some.inj ((show Tryd.prog.funcNamed "loop.example/keyward/laws.FnDskSame" = some 4 by kernel_rfl).symm.trans hf) |>.symm
      obtain rfl : fn = Tryd.f4 := (Option.some.inj (Tryd.func4.symm.trans hfn)).symm
      exact ⟨by kernel_rfl, fun j t ht => by
        rw [Tryd.params4] at ht
        have hm : t ∈ [27] := by simpa using Array.mem_of_getElem? ht
        have hall : ([27].all fun u => !Tryd.prog.wantsStandIn u) = true := by kernel_rfl
        exact (show Tryd.prog.wantsStandIn t = false by simpa using List.all_eq_true.1 hall t hm)⟩)
    (by kernel_rfl)
#print axioms card
end Go.Proofs.YtphammifhilpdaaDoor.fnDskSame
namespace Go.Proofs.YtphammifhilpdaaDoor
/-- The card, under a short name, for the claim. -/
theorem fnDskSame_card_holds : Rows.FnDskSameCardSaid := fnDskSame.card
end Go.Proofs.YtphammifhilpdaaDoor
