import Derived.Test.YtphammifhilpdaaDoorD07
import Derived.KernelRfl
import Derived.Test.YtphammifhilpdaaDoorProg
import Derived.Test.YtphammifhilpdaaDoorD08
namespace Kw
set_option linter.unusedVariables false
set_option linter.unusedSimpArgs false
set_option linter.unusedSectionVars false
open Go Go.Proofs
def glR0 : List Row := [[.str (bs [])], [.str (bs [99, 111, 109, 109, 105, 116])], [.str (bs [104, 101, 97, 114])], [.str (bs [106, 111, 105, 110])], [.str (bs [115, 116, 101, 97, 108])], [.str (bs [115, 97, 121])], [.str (bs [103, 101, 116])]]
instance seGl : Gl := ⟨fun v => match v with | 0 => some (.sl glR0) | 1 => some (.iface false) | 2 => some (.iface false) | _ => none⟩
def an (k : Bool) (l : List Nat) : Ann := ⟨l, l.map (fun s => (s, none, .loc s 100)) ++ l.flatMap fun s => (List.range 10).map fun c => (s, some c, .loc s (if k && c == 1 then 1102 else 101 + c))⟩
def annL : List (Nat × Nat × Bool × List Nat) := [(5, 4, false, [5, 0, 3, 4]),
  (7, 4, false, [5, 0, 1]),
  (8, 2, false, [5, 0, 1]),
  (9, 2, false, [5, 0, 1]),
  (11, 10, false, [7, 6, 0, 2]),
  (16, 4, false, [0, 3]),
  (19, 4, false, [6, 3, 5, 0, 4]),
  (20, 5, false, [4, 0, 3, 2]),
  (24, 2, false, [8, 7, 1, 0]),
  (28, 4, false, [5, 0, 3, 4]),
  (30, 3, false, [1, 2, 4]),
  (32, 5, false, [4, 0, 3]),
  (34, 11, false, [10, 3, 0, 1, 9, 2]),
  (39, 4, false, [3, 0]),
  (40, 2, false, [0, 3]),
  (44, 10, false, [49, 48, 47, 6, 5]),
  (49, 2, false, [6, 5, 0]),
  (51, 6, false, [7, 1, 0, 6]),
  (52, 6, false, [0, 1, 5]),
  (55, 5, false, [9, 8, 2, 3, 6]),
  (57, 4, false, [7, 6, 1, 5]),
  (66, 2, false, [4, 2]),
  (69, 15, false, [8, 9, 0, 6, 7, 5, 1, 10]),
  (72, 5, false, [4, 3]),
  (74, 36, false, [101, 100, 99, 8, 1, 13, 10, 11, 9, 12]),
  (78, 2, false, [4, 0]),
  (84, 5, false, [9, 7, 8, 0, 5, 1, 6]),
  (84, 11, false, [10, 0, 8, 6, 7, 5, 1]),
  (86, 5, false, [6, 0, 1, 5]),
  (89, 10, false, [4, 0, 5, 3]),
  (92, 1, false, [4, 1, 0]),
  (93, 11, false, [1, 15, 13, 16, 12, 14, 3, 4, 0, 11, 10]),
  (93, 18, false, [1, 17, 13, 12, 3, 4, 0, 11, 10]),
  (96, 3, false, [5, 0, 4]),
  (96, 8, false, [8, 6, 7, 4])]
def annT (f r : Nat) : Ann := match annL.find? (fun x => x.1 == f && x.2.1 == r) with | some x => an x.2.2.1 x.2.2.2 | none => ⟨[], []⟩
def cutL : List (Nat × Nat × Bool × List Nat) := [(19, 7, false, [0, 5, 4, 3]),
  (19, 39, false, [5, 4])]
def cutT (f r : Nat) : Option Ann := match cutL.find? (fun x => x.1 == f && x.2.1 == r) with | some x => some (an x.2.2.1 x.2.2.2) | none => none
def mvT (f : FuncId) : Bool := f == 55
def keepT (f : FuncId) : Bool := f == 6 || f == 15 || f == 20 || f == 55 || f == 56
def ioT (f : FuncId) : Bool := f == 8 || f == 19
def krT (f : FuncId) : Bool := false
def okL : List Nat := [3, 4, 7, 8, 9, 10, 11, 12, 13, 16, 17, 18, 19, 20, 21, 22, 24, 25, 27, 28, 29, 30, 31, 32, 33, 37, 38, 39, 40, 41, 42, 43, 46, 47, 49, 50, 54, 55, 56, 57, 58, 65, 70, 71, 72, 73, 78, 79, 85, 86, 87, 94]
noncomputable def E : Env := { P := Tryd.prog, ann := annT, mv := mvT, keep := keepT, io := ioT, kr := krT, ext := fun f => bif f == 23 then some splQ else bif f == 26 then some atoaQ else bif f == 48 then some itoaQ else none, cut := cutT, okf := fun f => okL.contains f }
noncomputable def body (fn : Func) : Code := match fn.body with | some c => c | none => .skip
end Kw
namespace Kw
set_option linter.unusedVariables false
set_option linter.unusedSimpArgs false
set_option linter.unusedSectionVars false
open Go Go.Proofs
def LexAt (i : Nat) : Prop := ∀ (fn : Func) (c : Code), Tryd.prog.funcs[i]? = some fn → fn.body = some c → lexAll c = true
theorem lex_at {i : Nat} {g : Func} (hf : Tryd.prog.funcs[i]? = some g) (hl : lexAll (body g) = true) : LexAt i := fun fn c h1 h2 => by
  rw [hf] at h1; cases h1; unfold body at hl; rw [h2] at hl; exact hl
theorem lex_3 : LexAt 3 := lex_at Tryd.func3 (by kernel_rfl)
theorem lex_4 : LexAt 4 := lex_at Tryd.func4 (by kernel_rfl)
theorem lex_7 : LexAt 7 := lex_at Tryd.func7 (by kernel_rfl)
theorem lex_8 : LexAt 8 := lex_at Tryd.func8 (by kernel_rfl)
theorem lex_9 : LexAt 9 := lex_at Tryd.func9 (by kernel_rfl)
theorem lex_10 : LexAt 10 := lex_at Tryd.func10 (by kernel_rfl)
theorem lex_11 : LexAt 11 := lex_at Tryd.func11 (by kernel_rfl)
theorem lex_12 : LexAt 12 := lex_at Tryd.func12 (by kernel_rfl)
theorem lex_13 : LexAt 13 := lex_at Tryd.func13 (by kernel_rfl)
theorem lex_16 : LexAt 16 := lex_at Tryd.func16 (by kernel_rfl)
theorem lex_17 : LexAt 17 := lex_at Tryd.func17 (by kernel_rfl)
theorem lex_18 : LexAt 18 := lex_at Tryd.func18 (by kernel_rfl)
theorem lex_19 : LexAt 19 := lex_at Tryd.func19 (by kernel_rfl)
theorem lex_20 : LexAt 20 := lex_at Tryd.func20 (by kernel_rfl)
theorem lex_21 : LexAt 21 := lex_at Tryd.func21 (by kernel_rfl)
theorem lex_22 : LexAt 22 := lex_at Tryd.func22 (by kernel_rfl)
theorem lex_24 : LexAt 24 := lex_at Tryd.func24 (by kernel_rfl)
theorem lex_25 : LexAt 25 := lex_at Tryd.func25 (by kernel_rfl)
theorem lex_27 : LexAt 27 := lex_at Tryd.func27 (by kernel_rfl)
theorem lex_28 : LexAt 28 := lex_at Tryd.func28 (by kernel_rfl)
theorem lex_29 : LexAt 29 := lex_at Tryd.func29 (by kernel_rfl)
theorem lex_30 : LexAt 30 := lex_at Tryd.func30 (by kernel_rfl)
theorem lex_31 : LexAt 31 := lex_at Tryd.func31 (by kernel_rfl)
theorem lex_32 : LexAt 32 := lex_at Tryd.func32 (by kernel_rfl)
theorem lex_33 : LexAt 33 := lex_at Tryd.func33 (by kernel_rfl)
theorem lex_37 : LexAt 37 := lex_at Tryd.func37 (by kernel_rfl)
theorem lex_38 : LexAt 38 := lex_at Tryd.func38 (by kernel_rfl)
theorem lex_39 : LexAt 39 := lex_at Tryd.func39 (by kernel_rfl)
theorem lex_40 : LexAt 40 := lex_at Tryd.func40 (by kernel_rfl)
theorem lex_41 : LexAt 41 := lex_at Tryd.func41 (by kernel_rfl)
theorem lex_42 : LexAt 42 := lex_at Tryd.func42 (by kernel_rfl)
theorem lex_43 : LexAt 43 := lex_at Tryd.func43 (by kernel_rfl)
theorem lex_46 : LexAt 46 := lex_at Tryd.func46 (by kernel_rfl)
theorem lex_47 : LexAt 47 := lex_at Tryd.func47 (by kernel_rfl)
theorem lex_49 : LexAt 49 := lex_at Tryd.func49 (by kernel_rfl)
theorem lex_50 : LexAt 50 := lex_at Tryd.func50 (by kernel_rfl)
theorem lex_54 : LexAt 54 := lex_at Tryd.func54 (by kernel_rfl)
theorem lex_55 : LexAt 55 := lex_at Tryd.func55 (by kernel_rfl)
theorem lex_56 : LexAt 56 := lex_at Tryd.func56 (by kernel_rfl)
theorem lex_57 : LexAt 57 := lex_at Tryd.func57 (by kernel_rfl)
theorem lex_58 : LexAt 58 := lex_at Tryd.func58 (by kernel_rfl)
theorem lex_65 : LexAt 65 := lex_at Tryd.func65 (by kernel_rfl)
theorem lex_70 : LexAt 70 := lex_at Tryd.func70 (by kernel_rfl)
theorem lex_71 : LexAt 71 := lex_at Tryd.func71 (by kernel_rfl)
theorem lex_72 : LexAt 72 := lex_at Tryd.func72 (by kernel_rfl)
theorem lex_73 : LexAt 73 := lex_at Tryd.func73 (by kernel_rfl)
theorem lex_78 : LexAt 78 := lex_at Tryd.func78 (by kernel_rfl)
theorem lex_79 : LexAt 79 := lex_at Tryd.func79 (by kernel_rfl)
theorem lex_85 : LexAt 85 := lex_at Tryd.func85 (by kernel_rfl)
theorem lex_86 : LexAt 86 := lex_at Tryd.func86 (by kernel_rfl)
theorem lex_87 : LexAt 87 := lex_at Tryd.func87 (by kernel_rfl)
theorem lex_94 : LexAt 94 := lex_at Tryd.func94 (by kernel_rfl)
theorem lex_all : ∀ i ∈ okL, LexAt i := List.forall_mem_cons.2 ⟨lex_3, List.forall_mem_cons.2 ⟨lex_4, List.forall_mem_cons.2 ⟨lex_7, List.forall_mem_cons.2 ⟨lex_8, List.forall_mem_cons.2 ⟨lex_9, List.forall_mem_cons.2 ⟨lex_10, List.forall_mem_cons.2 ⟨lex_11, List.forall_mem_cons.2 ⟨lex_12, List.forall_mem_cons.2 ⟨lex_13, List.forall_mem_cons.2 ⟨lex_16, List.forall_mem_cons.2 ⟨lex_17, List.forall_mem_cons.2 ⟨lex_18, List.forall_mem_cons.2 ⟨lex_19, List.forall_mem_cons.2 ⟨lex_20, List.forall_mem_cons.2 ⟨lex_21, List.forall_mem_cons.2 ⟨lex_22, List.forall_mem_cons.2 ⟨lex_24, List.forall_mem_cons.2 ⟨lex_25, List.forall_mem_cons.2 ⟨lex_27, List.forall_mem_cons.2 ⟨lex_28, List.forall_mem_cons.2 ⟨lex_29, List.forall_mem_cons.2 ⟨lex_30, List.forall_mem_cons.2 ⟨lex_31, List.forall_mem_cons.2 ⟨lex_32, List.forall_mem_cons.2 ⟨lex_33, List.forall_mem_cons.2 ⟨lex_37, List.forall_mem_cons.2 ⟨lex_38, List.forall_mem_cons.2 ⟨lex_39, List.forall_mem_cons.2 ⟨lex_40, List.forall_mem_cons.2 ⟨lex_41, List.forall_mem_cons.2 ⟨lex_42, List.forall_mem_cons.2 ⟨lex_43, List.forall_mem_cons.2 ⟨lex_46, List.forall_mem_cons.2 ⟨lex_47, List.forall_mem_cons.2 ⟨lex_49, List.forall_mem_cons.2 ⟨lex_50, List.forall_mem_cons.2 ⟨lex_54, List.forall_mem_cons.2 ⟨lex_55, List.forall_mem_cons.2 ⟨lex_56, List.forall_mem_cons.2 ⟨lex_57, List.forall_mem_cons.2 ⟨lex_58, List.forall_mem_cons.2 ⟨lex_65, List.forall_mem_cons.2 ⟨lex_70, List.forall_mem_cons.2 ⟨lex_71, List.forall_mem_cons.2 ⟨lex_72, List.forall_mem_cons.2 ⟨lex_73, List.forall_mem_cons.2 ⟨lex_78, List.forall_mem_cons.2 ⟨lex_79, List.forall_mem_cons.2 ⟨lex_85, List.forall_mem_cons.2 ⟨lex_86, List.forall_mem_cons.2 ⟨lex_87, List.forall_mem_cons.2 ⟨lex_94, fun _ h => absurd h List.not_mem_nil⟩⟩⟩⟩⟩⟩⟩⟩⟩⟩⟩⟩⟩⟩⟩⟩⟩⟩⟩⟩⟩⟩⟩⟩⟩⟩⟩⟩⟩⟩⟩⟩⟩⟩⟩⟩⟩⟩⟩⟩⟩⟩⟩⟩⟩⟩⟩⟩⟩⟩⟩⟩
theorem name_all : (Tryd.prog.funcs.toList.all fun fn => !(fn.name == "runtime.NumGoroutine")) = true := by kernel_rfl
theorem name_ok (f : FuncId) (fn : Func) (h : Tryd.prog.funcs[f]? = some fn) : (fn.name == "runtime.NumGoroutine") = false := by
  have hm : fn ∈ Tryd.prog.funcs.toList := by
    rw [← Array.getElem?_toList] at h; exact List.mem_of_getElem? h
  have := List.all_eq_true.1 name_all fn hm
  simpa using this
theorem mixed : Tryd.prog.follows .mixedOrders = true := by kernel_rfl
theorem lex_ok (f : FuncId) (fn : Func) (c : Code) (h1 : E.P.funcs[f]? = some fn) (h2 : fn.body = some c) (h3 : E.okf f = true) : lexAll c = true := lex_all f (List.contains_iff_mem.1 h3) fn c h1 h2
end Kw
namespace Kw
set_option linter.unusedVariables false
set_option linter.unusedSimpArgs false
set_option linter.unusedSectionVars false
open Go Go.RowKit Go.Proofs
theorem ext_case {P : Program} {f k : FuncId} {q q' : List MV → Option MV} {r : Option (List MV → Option MV)} (h : (bif f == k then some q' else r) = some q)
    (hk : RunOk P fun f' args imps => if f' = k then (q' args).map fun m => (m, imps) else none) (hr : r = some q → RunOk P fun f' args imps => if f' = f then (q args).map fun m => (m, imps) else none) :
    RunOk P fun f' args imps => if f' = f then (q args).map fun m => (m, imps) else none := by
  cases hf : (f == k) with
  | true =>
    rw [hf] at h
    cases h
    have : f = k := by simpa using hf
    subst this
    exact @hk
  | false => rw [hf] at h; exact @hr h

set_option maxRecDepth 100000 in
theorem hext (f : FuncId) (q : List MV → Option MV) (hq : E.ext f = some q) : RunOk E.P fun f' args imps => if f' = f then (q args).map fun m => (m, imps) else none := by
  refine @ext_case _ f 23 q _ _ hq splR fun hq => @ext_case _ f 26 q _ _ hq (atoaR ⟨rfl, rfl⟩) fun hq => @ext_case _ f 48 q _ _ hq itoaR fun hq => ?_
  cases hq
set_option maxRecDepth 100000 in
theorem run_ok {L : Nat} (D : Nat) : RunOk Tryd.prog (ev E L D) := by
  have hm : E.P.follows .mixedOrders = true := mixed
  have hn : ∀ (f : FuncId) (fn : Func), E.P.funcs[f]? = some fn → (fn.name == "runtime.NumGoroutine") = false := name_ok
  have h : RunOk E.P (ev E L D) := sound (L := L) hm hn lex_ok hext D
  exact @h
end Kw
