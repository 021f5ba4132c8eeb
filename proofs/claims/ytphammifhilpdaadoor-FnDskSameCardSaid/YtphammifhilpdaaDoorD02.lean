import Derived.Test.YtphammifhilpdaaDoorD01
import Derived.BigFrame
import Derived.Laws.CopyRow
import Derived.Laws.BytesString
import Derived.Deep.AppendSrc
namespace Kw
set_option linter.unusedVariables false
set_option linter.unusedSimpArgs false
set_option linter.unusedSectionVars false
open Go
variable [Gl]
section inv
variable {g : G} {cu : H → Int} {w : World} {v : Value}
theorem rv_int {k : IntKind} {n : Int} (h : RV g cu w v (.int k n)) : v = .int k n := by cases h with | sv h => cases h; rfl
theorem rv_bool {b : Bool} (h : RV g cu w v (.bool b)) : v = .bool b := by cases h with | sv h => cases h; rfl
theorem rv_str {s : ByteArray} (h : RV g cu w v (.str s)) : v = .string s := by cases h with | sv h => cases h; rfl
theorem rv_sl {rows : List Row} (h : RV g cu w v (.sl rows)) : SV w g.prot v (.sl rows) := by cases h with | sv h => exact h
theorem rv_agg {cs : List MV} (h : RV g cu w v (.agg cs)) : ∃ vs : Array Value, v = .agg vs ∧ vs.size = cs.length ∧ ∀ (j : Nat) (v : Value) (m : MV), vs[j]? = some v → cs[j]? = some m → RV g cu w v m := by
  cases h with
  | sv h => cases h
  | agg hl hr => exact ⟨_, rfl, hl, hr⟩
theorem rv_tup {cs : List MV} (h : RV g cu w v (.tup cs)) : ∃ vs : Array Value, v = .tuple vs ∧ vs.size = cs.length ∧ ∀ (j : Nat) (v : Value) (m : MV), vs[j]? = some v → cs[j]? = some m → RV g cu w v m := by
  cases h with
  | sv h => cases h
  | tup hl hr => exact ⟨_, rfl, hl, hr⟩
theorem rv_fn {f : FuncId} {caps : List MV} (h : RV g cu w v (.fn f caps)) : ∃ vs : Array Value, v = .func (.func f) #[] vs ∧ vs.size = caps.length ∧ ∀ (j : Nat) (v : Value) (m : MV), vs[j]? = some v → caps[j]? = some m → RV g cu w v m := by
  cases h with
  | sv h => cases h
  | fn hl hr => exact ⟨_, rfl, hl, hr⟩
end inv

theorem bnd_some {α R : Type} {o : Option α} {f : α → Option R} {r : R} (h : bnd o f = some r) : ∃ x, o = some x ∧ f x = some r := by
  unfold bnd at h
  cases o with
  | none => simp at h
  | some x => exact ⟨x, rfl, by simpa using h⟩
theorem br_some {R : Type} {b : Bool} {x y : Option R} {r : R} (h : br b x y = some r) : (b = true ∧ x = some r) ∨ (b = false ∧ y = some r) := by
  unfold br at h
  cases b
  · exact .inr ⟨rfl, h⟩
  · exact .inl ⟨rfl, h⟩
theorem gBool_some {m : MV} {b : Bool} (h : gBool m = some b) : m = .bool b := by unfold gBool at h; split at h <;> simp_all
theorem gStr_some {m : MV} {b : ByteArray} (h : gStr m = some b) : m = .str b := by unfold gStr at h; split at h <;> simp_all
theorem gInt_some {m : MV} {k : IntKind} {b : Int} (h : gInt k m = some b) : m = .int k b := by
  unfold gInt at h; split at h
  · split at h <;> simp_all
  · simp at h
theorem gIf_some {m : MV} {b : Bool} (h : gIf m = some b) : m = .iface b := by unfold gIf at h; split at h <;> simp_all
theorem gSl_some {m : MV} {b : List Row} (h : gSl m = some b) : m = .sl b := by unfold gSl at h; split at h <;> simp_all
theorem gOwn_some {m : MV} {b : List Row} (h : gOwn m = some b) : m = .own b := by unfold gOwn at h; split at h <;> simp_all

section
variable {P : Program} {R : Type} {r : R} {k : Fr → Option R} {fr : Fr} {g : G} {a : Act} {w : World} {o : Oper} {Q : Exit → Act → World → Prop}
theorem up_value {v : Value} {m : MV} {g' : G} {w' : World} {fr1 : Fr} (hr : (execOp a.eval o).run P w = .ok (.value v) w')
    (hk : k (fr1.finish o.dst m) = some r) (S : Sim fr1 g' a.tmps w') (h : RV g' (cur fr1.ob) w' v m) (F : Fm g w g' w') :
    o.upon P a (Good r k g w a) Q ((execOp a.eval o).run P w) := by
  rw [hr]; exact good_fin hk S h F
theorem up_skip {m : MV} {g' : G} {w' : World} {fr1 : Fr} (hr : (execOp a.eval o).run P w = .ok .skip w')
    (hk : k (fr1.finish o.dst .undef) = some r) (S : Sim fr1 g' a.tmps w') (F : Fm g w g' w') :
    o.upon P a (Good r k g w a) Q ((execOp a.eval o).run P w) := by
  rw [hr]; exact good_fin (m := .undef) hk S (.undef _) F
theorem s_move {x : Operand} (ho : o.op = .move x ∨ o.op = .assign x) (h : k (fr.finish o.dst (opnd fr x)) = some r) (S : Sim fr g a.tmps w) :
    o.upon P a (Good r k g w a) Q ((execOp a.eval o).run P w) := by
  refine up_value (v := a.eval x) ?_ h S (opnd_rv S x) (Fm.refl _ _)
  unfold execOp
  rcases ho with ho | ho <;> rw [ho] <;> simp
theorem s_pick {c x y : Operand} (ho : o.op = .pick c x y) (h : (bnd (gBool (opnd fr c)) fun c => br c (k (fr.finish o.dst (opnd fr x))) (k (fr.finish o.dst (opnd fr y)))) = some r) (S : Sim fr g a.tmps w) :
    o.upon P a (Good r k g w a) Q ((execOp a.eval o).run P w) := by
  obtain ⟨b, hb, h⟩ := bnd_some h
  have hc := opnd_rv S c
  rw [gBool_some hb] at hc
  have hc := rv_bool hc
  have hr : (execOp a.eval o).run P w = .ok (.value (if b then a.eval x else a.eval y)) w := by
    unfold execOp
    rw [ho]
    generalize a.eval = ρ at *
    simp [hc, asBool]
  rcases br_some h with ⟨e, h⟩ | ⟨e, h⟩ <;> subst e
  · exact up_value hr h S (opnd_rv S x) (Fm.refl _ _)
  · exact up_value hr h S (opnd_rv S y) (Fm.refl _ _)
theorem run_binInt {op : BinOp} {t yt : TypeId} {x y : Operand} {ρ : Operand → Value} {kd : IntKind} {n m : Int} {v : Value} (ho : o.op = .binOp op t x y yt)
    (hx : ρ x = .int kd n) (hy : ρ y = .int kd m) (hb : (binOp op t (.int kd n) (.int kd m)).run P w = .ok v w) :
    (execOp ρ o).run P w = .ok (.value v) w := by
  unfold execOp
  rw [ho]
  simp only [hx, hy]
  simp [eqGuard, hb]
theorem equalIn_bool {t : TypeId} (hu : P.underlying t = some .bool) (n : Nat) (b b' : Bool) : (Op.equalIn (n + 1) t (.bool b) (.bool b')).run P w = .ok (b == b') w := by
  unfold Op.equalIn
  simp [run_und hu]
theorem equal_bool {t : TypeId} (hu : P.underlying t = some .bool) (b b' : Bool) : (Op.equal t (.bool b) (.bool b')).run P w = .ok (b == b') w := equalIn_bool hu 9999 b b'
theorem binOp_eql (t : TypeId) (b b' : Bool) : binOp .eql t (.bool b) (.bool b') = (do pure (.bool (← Op.equal t (.bool b) (.bool b')))) := rfl
theorem binOp_neq (t : TypeId) (b b' : Bool) : binOp .neq t (.bool b) (.bool b') = (do pure (.bool (!(← Op.equal t (.bool b) (.bool b'))))) := rfl
theorem s_bin {op : BinOp} {t yt : TypeId} {x y : Operand} (ho : o.op = .binOp op t x y yt) (h : evBin (isBoolT P t) op (opnd fr x) (opnd fr y) (fun m => k (fr.finish o.dst m)) = some r) (S : Sim fr g a.tmps w) :
    o.upon P a (Good r k g w a) Q ((execOp a.eval o).run P w) := by
  have hx := opnd_rv S x
  have hy := opnd_rv S y
  unfold evBin at h
  split at h
  · rename_i kd n kd' m ex ey
    rw [ex] at hx; rw [ey] at hy
    have hx := rv_int hx
    have hy := rv_int hy
    split at h
    · rename_i e
      subst e
      have key : ∀ (v : Value) (mv : MV), SV w g.prot v mv → k (fr.finish o.dst mv) = some r → (binOp op t (.int kd n) (.int kd m)).run P w = .ok v w →
          o.upon P a (Good r k g w a) Q ((execOp a.eval o).run P w) :=
        fun v mv hs hk hb => up_value (run_binInt ho hx hy hb) hk S (.sv hs) (Fm.refl _ _)
      split at h
      · exact key _ _ (.int _ _) h (by simp [binOp, Op.intArith, iAdd])
      · exact key _ _ (.int _ _) h (by simp [binOp, Op.intArith, iSub])
      · exact key _ _ (.int _ _) h (by simp [binOp, Op.intArith, iMul])
      · rcases br_some h with ⟨_, h⟩ | ⟨e, h⟩
        · simp at h
        · exact key _ _ (.int _ _) h (by simp [iEq] at e; simp [binOp, Op.intDiv, iQuo, e])
      · rcases br_some h with ⟨_, h⟩ | ⟨e, h⟩
        · simp at h
        · exact key _ _ (.int _ _) h (by simp [iEq] at e; simp [binOp, Op.intDiv, iRem, e])
      · exact key _ _ (.int _ _) h (by simp [binOp, Op.intBits, iXor])
      · exact key _ _ (.bool _) h (by simp [binOp, Op.intCmp, iEq])
      · exact key _ _ (.bool _) h (by simp [binOp, Op.intCmp, iEq, bNot]; rfl)
      · exact key _ _ (.bool _) h (by simp [binOp, Op.intCmp, iLt])
      · exact key _ _ (.bool _) h (by simp [binOp, Op.intCmp, iLe])
      · exact key _ _ (.bool _) h (by simp [binOp, Op.intCmp, iLt])
      · exact key _ _ (.bool _) h (by simp [binOp, Op.intCmp, iLe])
      · simp at h
    · simp at h
  · rename_i s s' ex ey
    rw [ex] at hx; rw [ey] at hy
    have hx := rv_str hx
    have hy := rv_str hy
    have key : ∀ (v : Value) (mv : MV), SV w g.prot v mv → k (fr.finish o.dst mv) = some r → (Op.stringOp op s s').run P w = .ok v w →
        o.upon P a (Good r k g w a) Q ((execOp a.eval o).run P w) := fun v mv hs hk hb => by
      refine up_value (v := v) ?_ hk S (.sv hs) (Fm.refl _ _)
      unfold execOp
      rw [ho]
      generalize a.eval = ρ at *
      simp only [hx, hy]
      simp [eqGuard, binOp, hb]
    split at h
    · rcases br_some h with ⟨e, h⟩ | ⟨_, h⟩
      · refine key _ _ (.str _) h ?_
        simp [fits, sLen] at e
        have : ¬ ((s.size + s'.size : Nat) : Int) > IntKind.i64.max := by
          have : IntKind.i64.max = 9223372036854775807 := rfl
          omega
        simp only [Op.stringOp]
        rw [if_neg this]
        rfl
      · simp at h
    · exact key _ _ (.bool _) h (by simp [Op.stringOp, sEq])
    · exact key _ _ (.bool _) h (by simp [Op.stringOp, sEq, bNot])
    · simp at h
  · rename_i b b' ex ey
    rw [ex] at hx; rw [ey] at hy
    have hx := rv_bool hx
    have hy := rv_bool hy
    split at h
    · rename_i hub
      have hu : P.underlying t = some .bool := by unfold isBoolT at hub; split at hub <;> simp_all
      have key : ∀ (v : Value) (mv : MV), SV w g.prot v mv → k (fr.finish o.dst mv) = some r → (binOp op t (.bool b) (.bool b')).run P w = .ok v w →
          o.upon P a (Good r k g w a) Q ((execOp a.eval o).run P w) := fun v mv hs hk hb => by
        refine up_value (v := v) ?_ hk S (.sv hs) (Fm.refl _ _)
        unfold execOp
        rw [ho]
        generalize a.eval = ρ at *
        simp only [hx, hy]
        simp [eqGuard, hb]
      split at h
      · exact key _ _ (.bool _) h (by rw [binOp_eql]; simp [equal_bool hu, bEq])
      · exact key _ _ (.bool _) h (by rw [binOp_neq]; simp [equal_bool hu, bEq, bNot])
      · simp at h
    · simp at h
  · simp at h

theorem equalIn_if {t : TypeId} {ms : Array (String × TypeId)} (hu : P.underlying t = some (.interface ms)) (n : Nat) (v : Value) (b : Bool) (hv : (v = .nilIface ∧ b = true) ∨ ∃ t' v', v = .iface t' v' ∧ b = false) : (Op.equalIn (n + 1) t v .nilIface).run P w = .ok b w := by
  rcases hv with ⟨e, e'⟩ | ⟨t', v', e, e'⟩ <;> subst e <;> subst e' <;> simp [Op.equalIn, run_und hu]
theorem s_ifeq {op : BinOp} {t yt : TypeId} {x y : Operand} {q : Bool} (h : (match op with | .eql => k (fr.finish o.dst (.bool q)) | .neq => k (fr.finish o.dst (.bool (bNot q))) | _ => none) = some r) (ho : o.op = .binOp op t x y yt) (hx : opnd fr x = .iface q) (hy : isNilC y = true) (hi : isIfT P t = true) (S : Sim fr g a.tmps w) :
    o.upon P a (Good r k g w a) Q ((execOp a.eval o).run P w) := by
  have hr := opnd_rv S x
  rw [hx] at hr
  have hv : (a.eval x = .nilIface ∧ q = true) ∨ ∃ t' v', a.eval x = .iface t' v' ∧ q = false := by
    generalize a.eval x = vx at hr ⊢
    cases hr with
    | sv h => cases h with
      | ifN => exact .inl ⟨rfl, rfl⟩
      | ifS t' v' => exact .inr ⟨t', v', rfl, rfl⟩
  have hyc : y = .const .nilIface := by
    unfold isNilC at hy
    split at hy
    · rfl
    · cases hy
  subst hyc
  obtain ⟨ms, hu⟩ : ∃ ms, P.underlying t = some (.interface ms) := by
    unfold isIfT at hi
    split at hi
    · rename_i ms e; exact ⟨ms, e⟩
    · cases hi
  have he := equalIn_if (w := w) hu 9999 (a.eval x) q hv
  have hev : a.eval (.const .nilIface) = .nilIface := rfl
  have hg : (eqGuard op t x (.const .nilIface) (a.eval x) .nilIface).run P w = .ok () w := by
    rcases hv with ⟨e, _⟩ | ⟨t', v', e, _⟩ <;> rw [e] <;> cases op <;> simp [eqGuard]
  by_cases e1 : op = .eql
  · subst e1
    simp only at h
    refine up_value (v := .bool q) ?_ h S (.sv (.bool _)) (Fm.refl _ _)
    unfold execOp; rw [ho]
    simp only [hev]
    have hb : (binOp .eql t (a.eval x) .nilIface).run P w = .ok (.bool q) w := by
      rcases hv with ⟨e, _⟩ | ⟨t', v', e, _⟩ <;> (rw [e] at he ⊢; simp only [binOp]; simp [Op.equal, Op.maxDepth, he])
    simp [hg, hb]
  by_cases e2 : op = .neq
  · subst e2
    simp only at h
    refine up_value (v := .bool (!q)) ?_ h S (.sv (.bool _)) (Fm.refl _ _)
    unfold execOp; rw [ho]
    simp only [hev]
    have hb : (binOp .neq t (a.eval x) .nilIface).run P w = .ok (.bool (!q)) w := by
      rcases hv with ⟨e, _⟩ | ⟨t', v', e, _⟩ <;> (rw [e] at he ⊢; simp only [binOp]; simp [Op.equal, Op.maxDepth, he])
    simp [hg, hb]
  · exfalso
    cases op <;> simp_all
theorem s_un {op : UnOp} {t : TypeId} {x : Operand} (h : (match op, opnd fr x with
      | .not, .bool b => k (fr.finish o.dst (.bool (bNot b)))
      | .neg, .int kd n => k (fr.finish o.dst (.int kd (iSub kd 0 n)))
      | _, _ => none) = some r) (ho : o.op = .unOp op t x) (S : Sim fr g a.tmps w) : o.upon P a (Good r k g w a) Q ((execOp a.eval o).run P w) := by
  have hx := opnd_rv S x
  split at h
  · rename_i b ex
    rw [ex] at hx
    have hx := rv_bool hx
    refine up_value (v := .bool (!b)) ?_ h S (.sv (.bool _)) (Fm.refl _ _)
    unfold execOp; rw [ho]; generalize a.eval = ρ at *; simp [hx, Op.unary]
  · rename_i kd n ex
    rw [ex] at hx
    have hx := rv_int hx
    refine up_value (v := .int kd (kd.wrap (0 - n))) ?_ h S (.sv (.int _ _)) (Fm.refl _ _)
    unfold execOp; rw [ho]; generalize a.eval = ρ at *; simp [hx, Op.unary, Op.intArith]
  · simp at h
theorem s_index {t : TypeId} {x i : Operand} (ho : o.op = .index t x i) (h : (match opnd fr x, opnd fr i with
      | .str s, .int _ n => bnd (sAt s n) fun b => k (fr.finish o.dst (.int .u8 b))
      | _, _ => none) = some r) (hu : P.underlying t = some .string) (S : Sim fr g a.tmps w) : o.upon P a (Good r k g w a) Q ((execOp a.eval o).run P w) := by
  have hx := opnd_rv S x
  have hi := opnd_rv S i
  split at h
  · rename_i s kd n ex ei
    rw [ex] at hx; rw [ei] at hi
    have hx := rv_str hx
    have hi := rv_int hi
    obtain ⟨b, hb, h⟩ := bnd_some h
    refine up_value (v := .int .u8 b) ?_ h S (.sv (.int _ _)) (Fm.refl _ _)
    unfold sAt at hb
    split at hb
    · rename_i h0
      obtain ⟨c, hc, e⟩ := Option.map_eq_some_iff.1 hb
      have hc' : s[n.toNat]? = some c := by
        rw [Array.getElem?_toList] at hc
        rw [← hc]; rfl
      unfold execOp; rw [ho]; generalize a.eval = ρ at *
      simp [hx, hi, Instr.index, asIntOf, run_und hu, h0, hc', ← e]
    · simp at hb
  · simp at h
theorem s_extract {x : Operand} {j : Nat} (ho : o.op = .extract x j) (h : (match opnd fr x with | .tup vs => if j < vs.length then k (fr.finish o.dst (vs.getD j .undef)) else none | _ => none) = some r) (S : Sim fr g a.tmps w) :
    o.upon P a (Good r k g w a) Q ((execOp a.eval o).run P w) := by
  have hx := opnd_rv S x
  split at h
  · rename_i vs ex
    split at h
    · rename_i hj
      rw [ex] at hx
      obtain ⟨us, e, hl, hr⟩ := rv_tup hx
      have h1 : us[j]? = some (us[j]'(by omega)) := Array.getElem?_eq_getElem (by omega)
      have h2 : vs[j]? = some (vs[j]'hj) := List.getElem?_eq_getElem hj
      refine up_value (v := us[j]'(by omega)) (m := vs.getD j .undef) ?_ h S ?_ (Fm.refl _ _)
      · unfold execOp; rw [ho]; generalize a.eval = ρ at *
        simp [e, Instr.extract, h1]
      · rw [List.getD_eq_getElem?_getD, h2]; exact hr j _ _ h1 h2
    · simp at h
  · simp at h
theorem s_makeFunc {f : FuncId} {first caps : Array Operand} (ho : o.op = .makeFunc (.func f) first caps) (hf : first.size = 0) (h : k (fr.finish o.dst (.fn f (caps.toList.map (opnd fr)))) = some r) (S : Sim fr g a.tmps w) :
    o.upon P a (Good r k g w a) Q ((execOp a.eval o).run P w) := by
  refine up_value (v := .func (.func f) #[] (caps.map a.eval)) ?_ h S (.fn (by simp) (fun j v m h1 h2 => ?_)) (Fm.refl _ _)
  · have : first = #[] := Array.eq_empty_of_size_eq_zero hf
    unfold execOp; rw [ho]; simp [Instr.makeFunc, this]
  · rw [Array.getElem?_map] at h1
    rw [List.getElem?_map, Array.getElem?_toList] at h2
    cases hc : caps[j]? with
    | none => rw [hc] at h1; simp at h1
    | some c =>
      rw [hc] at h1 h2
      simp only [Option.map_some, Option.some.injEq] at h1 h2
      rw [← h1, ← h2]
      exact opnd_rv S c
end
end Kw
namespace Kw
set_option linter.unusedVariables false
set_option linter.unusedSimpArgs false
set_option linter.unusedSectionVars false
open Go
variable [Gl]
theorem opn_spec {R : Type} {r : R} : ∀ (shs : List Sh) (row : Row) (c : Nat) (k : List MV → Option R), opn false shs row c k = some r →
    ∃ ms, k ms = some r ∧ ms.length = shs.length ∧ ∀ (j : Nat) (m : MV), ms[j]? = some m → row[c + j]? = some m
  | [], row, c, k, h => ⟨[], h, rfl, fun j m hj => by simp at hj⟩
  | sh :: shs, row, c, k, h => by
    unfold opn at h
    have key : ∀ m, m ≠ .undef → cellAt row c = m → (opn false shs row (c + 1) fun ms => k (m :: ms)) = some r →
        ∃ ms, k ms = some r ∧ ms.length = (sh :: shs).length ∧ ∀ (j : Nat) (m : MV), ms[j]? = some m → row[c + j]? = some m := by
      intro m hm hc h'
      obtain ⟨ms, hk, hl, hms⟩ := opn_spec shs row (c + 1) _ h'
      refine ⟨m :: ms, hk, by simp [hl], fun j m' hj => ?_⟩
      cases j with
      | zero =>
        simp at hj
        subst hj
        unfold cellAt at hc
        rw [List.getD_eq_getElem?_getD] at hc
        cases hx : row[c]? with
        | none => rw [hx] at hc; exact absurd hc.symm hm
        | some y => rw [hx] at hc; simp at hc; simp [hx, hc]
      | succ j =>
        rw [show c + (j + 1) = c + 1 + j by omega]
        exact hms j m' (by simpa using hj)
    unfold opn1 at h
    split at h
    · obtain ⟨b, hb, h⟩ := bnd_some h
      exact key _ (by simp) (gBool_some hb) h
    · obtain ⟨b, hb, h⟩ := bnd_some h
      exact key _ (by simp) (gInt_some hb) h
    · obtain ⟨b, hb, h⟩ := bnd_some h
      exact key _ (by simp) (gStr_some hb) h
    · simp only [Bool.false_eq_true, if_false] at h
      obtain ⟨b, hb, h⟩ := bnd_some h
      exact key _ (by simp) (gSl_some hb) h
    · obtain ⟨b, hb, h⟩ := bnd_some h
      exact key _ (by simp) (gIf_some hb) h
    · simp at h
section
variable {g : G} {cu : H → Int} {w : World} {v : Value}
theorem rv_ptr {h : H} {off b : Nat} (k : RV g cu w v (.ptr h off)) (e : g.rho h = .box b) : v = .pointer (some ⟨b, off, none⟩) := by
  cases k with
  | sv h => cases h
  | ptr e' => rw [e] at e'; cases e'; rfl
  | deadP e' => rw [e] at e'; cases e'
theorem rv_mapr {h : H} {b : Nat} (k : RV g cu w v (.mapr h)) (e : g.rho h = .box b) : v = .map (some b) := by
  cases k with
  | sv h => cases h
  | mapr e' => rw [e] at e'; cases e'; rfl
  | deadM e' => rw [e] at e'; cases e'
theorem rv_ptrS {row : Row} {c : Nat} (k : RV g cu w v (.ptrS row c)) : ∃ (ad : Addr) (vf : Nat → Value), v = .pointer (some ⟨ad.block, ad.off + c, none⟩) ∧ g.prot ad.block ∧
    (∀ (j : Nat) (m : MV), row[j]? = some m → w.cell? ⟨ad.block, ad.off + j, none⟩ = some (vf j)) ∧ (∀ (j : Nat) (m : MV), row[j]? = some m → SV w g.prot (vf j) m) := by
  cases k with
  | sv h => cases h
  | ptrS vf hp hs hc hsv => exact ⟨_, vf, rfl, hp, hc, hsv⟩
theorem rv_ref {h : H} {n : Int} {b c s : Nat} (k : RV g cu w v (.ref h n)) (e : g.rho h = .mem b c s) (hn : n = cu h) : v = .slice (some ⟨b, 0, none⟩) n.toNat c := by
  cases k with
  | sv h => cases h
  | ref e' _ hv _ => rw [e] at e'; cases e'; exact hv hn
  | refN e' => rw [e] at e'; cases e'
  | deadR e' => rw [e] at e'; cases e'
theorem rv_refN {h : H} {n : Int} (k : RV g cu w v (.ref h n)) (e : g.rho h = .nil) (hn : n = cu h) : ∃ a, v = .slice a 0 0 := by
  cases k with
  | sv h => cases h
  | ref e' => rw [e] at e'; cases e'
  | refN e' _ hv _ => exact hv hn
  | deadR e' => rw [e] at e'; cases e'
theorem rv_ptrE {h : H} {n i : Int} {c b cap s : Nat} (k : RV g cu w v (.ptrE h n i c)) (e : g.rho h = .mem b cap s) (hn : n = cu h) : v = .pointer (some ⟨b, i.toNat * s + c, none⟩) := by
  cases k with
  | sv h => cases h
  | ptrE e' _ hv _ => rw [e] at e'; cases e'; exact hv hn
  | ptrEN e' => rw [e] at e'; cases e'
  | deadE e' => rw [e] at e'; cases e'
end
section
variable {P : Program} {R : Type} {r : R} {k : Fr → Option R} {fr : Fr} {g : G} {a : Act} {w : World} {o : Oper} {Q : Exit → Act → World → Prop}
theorem okT_iff {t : TypeId} (h : okT P t = true) : (∃ d, P.underlying t = some d) ∧ (isAgg P t = false → tsize P t = 1) ∧ (tzero P t).length = tsize P t := by
  unfold okT at h
  simp only [Bool.and_eq_true, Bool.or_eq_true, beq_iff_eq] at h
  obtain ⟨h1, _, h2, h3⟩ := h
  refine ⟨?_, fun e => by simpa [e] using h2, h3⟩
  split at h1
  · rename_i d e; exact ⟨d, e⟩
  · simp at h1
/-- a variable's value, packed as the evaluator packs it -/
theorem rv_pack {t : TypeId} {cu : H → Int} (hk : okT P t = true) {ms : List MV} (hl : ms.length = tsize P t) (f : Nat → Value) (h : ∀ (j : Nat) (m : MV), ms[j]? = some m → RV g cu w (f j) m) :
    RV g cu w (if isAgg P t then .agg ((List.range (tsize P t)).map f).toArray else f 0) (pack P t ms) := by
  obtain ⟨_, h1, _⟩ := okT_iff hk
  unfold pack
  cases e : isAgg P t with
  | true =>
    simp only [if_true]
    refine .agg (by simp [hl]) (fun j v m hv hm => ?_)
    have hj : j < ms.length := (List.getElem?_eq_some_iff.1 hm).1
    simp [List.getElem?_range (show j < tsize P t by omega)] at hv
    rw [← hv]; exact h j m hm
  | false =>
    have h1 := h1 e
    simp only [Bool.false_eq_true, if_false]
    match ms, hl, h with
    | m :: _, _, h => exact h 0 m rfl
    | [], hl, _ => simp at hl; omega
theorem sl_of_opn {t : TypeId} (hk : okT P t = true) {ms : List MV} (h : ms.length = (tshape P t).length) : ms.length = tsize P t := by
  rw [h]; unfold tshape; rw [List.length_map]; exact (okT_iff hk).2.2
theorem run_loadOp {t : TypeId} {x : Operand} {b off : Nat} (ho : o.op = .load t x) (hk : okT P t = true) (hx : a.eval x = .pointer (some ⟨b, off, none⟩)) (f : Nat → Value)
    (h : ∀ j, j < tsize P t → w.cell? ⟨b, off + j, none⟩ = some (f j)) :
    (execOp a.eval o).run P w = .ok (.value (if isAgg P t then .agg ((List.range (tsize P t)).map f).toArray else f 0)) w := by
  obtain ⟨⟨d, hu⟩, h1, _⟩ := okT_iff hk
  have hv := run_var hu f h (fun e => by rw [h1 e]; exact Nat.one_pos)
  unfold execOp; rw [ho]; generalize a.eval = ρ at *
  simp only [hx, Instr.loadAt, Instr.sureAddr]
  simp [hv]
theorem cell_cells {b off : Nat} {arr : Array Value} {ty : TypeId} {fz : Nat × Nat} (h : w.heap[b]? = some (.cells arr ty fz)) : w.cell? ⟨b, off, none⟩ = arr[off]? := by
  unfold World.cell?; rw [h]; simp
theorem obj_of {h : H} {ob : Obj} (S : SimO fr.ob g w) (e : fr.obj h = ob) (hn : ob ≠ .none) : ObjR g (cur fr.ob) w h ob := by
  have hm : look fr.ob h ≠ .none := by unfold Fr.obj at e; rw [e]; exact hn
  have := S.obj h _ (mem_of_look (mem_keys_of_look hm))
  unfold Fr.obj at e
  rw [e] at this; exact this
theorem s_load {E : Env} (hP : E.P = P) {t : TypeId} {x : Operand} (ho : o.op = .load t x) (h : evLoad E t (opnd fr x) fr (fun m => k (fr.finish o.dst m)) = some r) (S : Sim fr g a.tmps w) :
    o.upon P a (Good r k g w a) Q ((execOp a.eval o).run P w) := by
  subst hP
  have hx := opnd_rv S x
  unfold evLoad at h
  split at h
  case isFalse => simp at h
  rename_i hk
  split at h
  · rename_i hd off ex
    rw [ex] at hx
    split at h
    · rename_i cs ec
      split at h
      · rename_i hle
        obtain ⟨b, arr, ty, e, hh, hn, hs, hv⟩ := obj_of S.o ec (by simp)
        have ep := rv_ptr hx e
        have hcell : ∀ j, j < tsize E.P t → w.cell? ⟨b, off + j, none⟩ = some (arr.getD (off + j) undef) := by
          intro j hj
          rw [cell_cells hh, Array.getD_eq_getD_getElem?, Array.getElem?_eq_getElem (by omega)]; simp
        refine up_value (run_loadOp ho hk ep _ hcell) h S (rv_pack hk (by simp; omega) _ (fun j m hj => ?_)) (Fm.refl _ _)
        have hj' : j < tsize E.P t := by
          have := (List.getElem?_eq_some_iff.1 hj).1
          simp at this; omega
        rw [List.getElem?_take_of_lt hj', List.getElem?_drop] at hj
        exact hv (off + j) _ m (by rw [Array.getD_eq_getD_getElem?, Array.getElem?_eq_getElem (by omega)]; simp) hj
      · simp at h
    · simp at h
  · rename_i row c ex
    rw [ex] at hx
    obtain ⟨ms, h, hl, hms⟩ := opn_spec _ _ _ _ h
    obtain ⟨ad, vf, ep, hp, hc, hsv⟩ := rv_ptrS hx
    have hl' := sl_of_opn hk hl
    have hcell : ∀ j, j < tsize E.P t → w.cell? ⟨ad.block, ad.off + c + j, none⟩ = some (vf (c + j)) := by
      intro j hj
      have : ms[j]? = some (ms[j]'(by omega)) := List.getElem?_eq_getElem (by omega)
      rw [Nat.add_assoc]; exact hc (c + j) _ (hms j _ this)
    exact up_value (run_loadOp ho hk ep (fun j => vf (c + j)) hcell) h S (rv_pack hk hl' _ (fun j m hj => .sv (hsv _ _ (hms j m hj)))) (Fm.refl _ _)
  · rename_i hd n i c ex
    rw [ex] at hx
    have key : ∀ rows : List Row, cur fr.ob hd = nrows rows → (g.rho hd = .nil ∧ rows = [] ∨ ∃ b cap sz arr ty, g.rho hd = .mem b cap sz ∧ w.heap[b]? = some (.cells arr ty (0, 0)) ∧ Room (isK hd) arr cap sz rows ∧ rows.length ≤ cap ∧ RowsR w g.prot arr sz rows) →
        (br (iEq n (nrows rows)) (bnd (rowAt rows i) fun row => opn false (tshape E.P t) row c fun ms => k (fr.finish o.dst (pack E.P t ms))) none) = some r →
        o.upon E.P a (Good r k g w a) Q ((execOp a.eval o).run E.P w) := by
      intro rows hcur hob h
      rcases br_some h with ⟨en, h⟩ | ⟨_, h⟩
      case inr => simp at h
      have hn : n = cur fr.ob hd := by rw [hcur]; simpa [iEq] using en
      obtain ⟨row, hrow, h⟩ := bnd_some h
      unfold rowAt at hrow
      split at hrow
      case isFalse => simp at hrow
      rename_i hi0
      obtain ⟨ms, h, hl, hms⟩ := opn_spec _ _ _ _ h
      have hl' := sl_of_opn hk hl
      rcases hob with ⟨_, e⟩ | ⟨b, cap, sz, arr, ty, e, hh, hs, hle, hrr⟩
      · subst e; simp at hrow
      · have ep := rv_ptrE hx e hn
        obtain ⟨hlen, hcells⟩ := hrr i.toNat row hrow
        have hc : ∀ j, j < tsize E.P t → ∃ v, arr[i.toNat * sz + (c + j)]? = some v ∧ ∀ m, ms[j]? = some m → SV w g.prot v m := by
          intro j hj
          have hm : ms[j]? = some (ms[j]'(by omega)) := List.getElem?_eq_getElem (by omega)
          obtain ⟨v, hv, hsv⟩ := hcells (c + j) _ (hms j _ hm)
          exact ⟨v, hv, fun m h' => by rw [hm] at h'; cases h'; exact hsv⟩
        have hcell : ∀ j, j < tsize E.P t → w.cell? ⟨b, i.toNat * sz + c + j, none⟩ = some (arr.getD (i.toNat * sz + (c + j)) undef) := by
          intro j hj
          obtain ⟨v, hv, _⟩ := hc j hj
          rw [cell_cells hh, Nat.add_assoc, Array.getD_eq_getD_getElem?, hv]; rfl
        refine up_value (run_loadOp ho hk ep (fun j => arr.getD (i.toNat * sz + (c + j)) undef) hcell) h S (rv_pack hk hl' _ (fun j m hj => ?_)) (Fm.refl _ _)
        have hj' : j < tsize E.P t := by
          have := (List.getElem?_eq_some_iff.1 hj).1
          omega
        obtain ⟨v, hv, hsv⟩ := hc j hj'
        rw [Array.getD_eq_getD_getElem?, hv]
        exact .sv (hsv m hj)
    split at h
    · rename_i rows er
      refine key rows (by unfold cur; unfold Fr.obj at er; rw [er]) ?_ h
      rcases obj_of S.o er (by simp) with x | ⟨b, cap, sz, arr, ty, e, hh, _, hs, hle, hrr⟩
      · exact .inl x
      · exact .inr ⟨b, cap, sz, arr, ty, e, hh, hs, hle, hrr⟩
    · rename_i rows er
      refine key rows (by unfold cur; unfold Fr.obj at er; rw [er]) ?_ h
      rcases obj_of S.o er (by simp) with x | ⟨b, cap, sz, arr, ty, e, hh, _, hs, hle, hrr⟩
      · exact .inl x
      · exact .inr ⟨b, cap, sz, arr, ty, e, hh, hs, hle, hrr⟩
    · simp at h
  · simp at h
end
end Kw
namespace Kw
set_option linter.unusedVariables false
set_option linter.unusedSimpArgs false
set_option linter.unusedSectionVars false
open Go
variable [Gl]
def G.setR (g : G) (h : H) (x : GH) : G := ⟨fun h' => if h' = h then x else g.rho h', g.prot⟩
theorem setR_self {g : G} {h : H} {x : GH} : (g.setR h x).rho h = x := by simp [G.setR]
theorem setR_ne {g : G} {h h' : H} {x : GH} (e : h' ≠ h) : (g.setR h x).rho h' = g.rho h' := by simp [G.setR, e]
/-- 'lay' answers: the name was free -/
theorem lay_some {R : Type} {fr : Fr} {h : H} {o : Obj} {k : Fr → Option R} {r : R} (e : fr.lay h o k = some r) : h ∉ fr.ob.map (·.1) ∧ k (fr.setObj h o) = some r := by
  unfold Fr.lay at e
  split at e
  · simp at e
  · rename_i hn
    refine ⟨fun hm => hn ?_, e⟩
    obtain ⟨p, hp, he⟩ := List.mem_map.1 hm
    exact List.any_eq_true.2 ⟨p, hp, by simp [he]⟩
/-- new memory under a free name -/
theorem lay_sim {fr : Fr} {g : G} {tmps : Array Value} {w : World} (S : Sim fr g tmps w) {h : H} (hf : h ∉ fr.ob.map (·.1)) (o : Obj) (x : GH) (nb : Go.Obj)
    (hx : x ≠ .absent) (him : ∀ i, h ≠ .imp i) (hb : ∀ b, x.blk = some b → b = w.heap.size)
    (ho : ∀ g' w', g' = g.setR h x → w' = { w with heap := w.heap.push nb } → Later g g' (cur fr.ob) (cur (put fr.ob h o)) w w' → ObjR g' (cur (put fr.ob h o)) w' h o) :
    Sim (fr.setObj h o) (g.setR h x) tmps { w with heap := w.heap.push nb } ∧ Fm g w (g.setR h x) { w with heap := w.heap.push nb } := by
  have habs : g.rho h = .absent := (S.o.abs h).2 hf
  have hheap : ∀ b, b < w.heap.size → ({ w with heap := w.heap.push nb } : World).heap[b]? = w.heap[b]? := fun b hb => by
    simp only; rw [Array.getElem?_push_lt hb, Array.getElem?_eq_getElem hb]
  have L : Later g (g.setR h x) (cur fr.ob) (cur (put fr.ob h o)) w { w with heap := w.heap.push nb } := by
    have ne : ∀ h', g.rho h' ≠ .absent → h' ≠ h := fun h' hn e => hn (e ▸ habs)
    refine ⟨fun h' b e => .inl ((setR_ne (ne h' (by rw [e]; simp))).trans e), fun h' b c s e => .inr ?_, fun h' e => .inr ?_, fun h' e => (setR_ne (ne h' (by rw [e]; simp))).trans e, fun b hp => hp, fun b hp => hheap b (S.o.plt b hp)⟩
    · have := ne h' (by rw [e]; simp)
      exact ⟨by rw [cur_put_ne this]; exact Int.le_refl _, .inl ((setR_ne this).trans e)⟩
    · have := ne h' (by rw [e]; simp)
      exact ⟨by rw [cur_put_ne this]; exact Int.le_refl _, .inl ((setR_ne this).trans e)⟩
  refine ⟨S.later L (S.o.upd h o (fun h' e => setR_ne e) (by rw [setR_self]; exact hx) L (fun h' b _ e => hheap b (S.o.lt h' b e)) (fun _ _ _ _ hn => hn)
    (ho _ _ rfl rfl L) (fun h' b _ e e' => ?_) (fun b e => ?_) (by simp) (fun b hp => by simp; exact Nat.lt_succ_of_lt (S.o.plt b hp))), ?_⟩
  · rw [setR_self] at e
    have := S.o.lt h' b e'
    rw [hb b e] at this; omega
  · rw [setR_self] at e
    simp [hb b e]
  · refine ⟨rfl, rfl, rfl, by simp, fun b hb' _ => hheap b hb', fun h' b e => ?_, fun _ hp => hp, fun _ hp => .inl hp, fun i => ?_⟩
    by_cases eh : h' = h
    · subst eh; rw [setR_self] at e; exact .inl (by rw [hb b e]; exact Nat.le_refl _)
    · rw [setR_ne eh] at e; exact .inr ⟨h', e⟩
    · by_cases eh : (H.imp i) = h
      · exact absurd eh.symm (him i)
      · exact .inl (setR_ne eh)
section
variable {P : Program} {R : Type} {r : R} {k : Fr → Option R} {fr : Fr} {g : G} {a : Act} {w : World} {o : Oper} {Q : Exit → Act → World → Prop}
/-- a new box -/
theorem lay_box (S : Sim fr g a.tmps w) {h : H} (hi : ∀ i, h ≠ .imp i) (hf : h ∉ fr.ob.map (·.1)) (arr : Array Value) (ty : TypeId) (cs : List MV) (hl : arr.size = cs.length)
    (hv : ∀ (j : Nat) (v : Value) (m : MV), arr[j]? = some v → cs[j]? = some m → RV g (cur fr.ob) w v m) :
    Sim (fr.setObj h (.cells cs)) (g.setR h (.box w.heap.size)) a.tmps { w with heap := w.heap.push (.cells arr ty (0, 0)) } ∧ Fm g w (g.setR h (.box w.heap.size)) { w with heap := w.heap.push (.cells arr ty (0, 0)) } := by
  refine lay_sim S hf _ _ _ (by simp) hi (fun b e => by cases e; rfl) (fun g' w' eg ew L => ?_)
  subst eg; subst ew
  exact ⟨w.heap.size, arr, ty, setR_self, by simp, fun hp => Nat.lt_irrefl _ (S.o.plt _ hp), hl, fun j v m h1 h2 => (hv j v m h1 h2).mono L⟩
theorem zero_cells {t : TypeId} (hk : okT P t = true) : ∃ i v, P.info? t = some i ∧ i.zero = some v ∧ v.cells.toList = tzero P t ∧ v.cells.size = tsize P t := by
  have h2 := (okT_iff hk).2.2
  unfold okT at hk
  simp only [Bool.and_eq_true] at hk
  have hz := hk.2.1
  unfold zeroOk at hz
  split at hz
  · rename_i i hi
    split at hz
    · rename_i v hv
      have : tzero P t = v.cells.toList := by unfold tzero; rw [hi]; simp [hv]
      exact ⟨i, v, hi, hv, this.symm, by rw [← h2, this]; simp⟩
    · simp at hz
  · simp at hz
theorem s_alloc {t : TypeId} (ho : o.op = .alloc t) (h : (if okT P t then fr.lay (.loc (o.dst.getD 0) 0) (.cells ((tzero P t).map ofCell)) fun fr => k (fr.finish o.dst (.ptr (.loc (o.dst.getD 0) 0) 0)) else none) = some r) (S : Sim fr g a.tmps w) :
    o.upon P a (Good r k g w a) Q ((execOp a.eval o).run P w) := by
  split at h
  case isFalse => simp at h
  rename_i hk
  obtain ⟨hf, h⟩ := lay_some h
  obtain ⟨i, v, hi, hz, hc, hs⟩ := zero_cells hk
  obtain ⟨S', F⟩ := lay_box S (by simp) hf v.cells t ((tzero P t).map ofCell) (by rw [← hc]; simp) (fun j x m h1 h2 => by
    rw [← hc, List.getElem?_map, Array.getElem?_toList, h1] at h2
    cases h2; exact rv_ofCell g _ w x)
  refine up_value (v := .pointer (some ⟨w.heap.size, 0, none⟩)) ?_ h S' (.ptr setR_self) F
  unfold execOp; rw [ho]
  simp [Instr.alloc, run_zero hi hz, newVar, newRow]
theorem cellsOf_one {m : MV} (hm : m.one = true) : cellsOf m = [m] := by unfold cellsOf; split <;> simp_all [MV.one]
theorem rv_cells {cu : H → Int} {v : Value} {m : MV} (hx : RV g cu w v m) (hm : m.one = true ∨ ∃ cs, m = .agg cs) : v.cells.size = (cellsOf m).length ∧ ∀ (j : Nat) (v' : Value) (m' : MV), v.cells[j]? = some v' → (cellsOf m)[j]? = some m' → RV g cu w v' m' := by
  rcases hm with hm | ⟨cs, e⟩
  · rw [cellsOf_one hm, (hx.one hm).2]
    refine ⟨rfl, fun j v' m' h1 h2 => ?_⟩
    cases j with
    | zero => simp at h1 h2; rw [← h1, ← h2]; exact hx
    | succ j => simp at h2
  · subst e
    obtain ⟨vs, ev, hl, hr⟩ := rv_agg hx
    rw [ev]; exact ⟨hl, hr⟩
theorem s_box {t : TypeId} {x : Operand} (ho : o.op = .box t x) (h : (match opnd fr x with
      | .agg cs => fr.lay (.loc (o.dst.getD 0) 0) (.cells cs) fun fr => k (fr.finish o.dst (.ptr (.loc (o.dst.getD 0) 0) 0))
      | m => if m.one then fr.lay (.loc (o.dst.getD 0) 0) (.cells [m]) fun fr => k (fr.finish o.dst (.ptr (.loc (o.dst.getD 0) 0) 0)) else none) = some r) (S : Sim fr g a.tmps w) :
    o.upon P a (Good r k g w a) Q ((execOp a.eval o).run P w) := by
  have hx := opnd_rv S x
  have hr : (execOp a.eval o).run P w = .ok (.value (.pointer (some ⟨w.heap.size, 0, none⟩))) { w with heap := w.heap.push (.cells (a.eval x).cells t (0, 0)) } := by
    unfold execOp; rw [ho]
    generalize a.eval = ρ at *
    simp [Instr.box, newVar, newRow]
  have key : ∀ m, opnd fr x = m → (m.one = true ∨ ∃ cs, m = .agg cs) → fr.lay (.loc (o.dst.getD 0) 0) (.cells (cellsOf m)) (fun fr => k (fr.finish o.dst (.ptr (.loc (o.dst.getD 0) 0) 0))) = some r →
      o.upon P a (Good r k g w a) Q ((execOp a.eval o).run P w) := by
    intro m em hm h
    obtain ⟨hf, h⟩ := lay_some h
    rw [em] at hx
    have hcell : (a.eval x).cells.size = (cellsOf m).length ∧ ∀ (j : Nat) (v : Value) (m' : MV), (a.eval x).cells[j]? = some v → (cellsOf m)[j]? = some m' → RV g (cur fr.ob) w v m' := rv_cells hx hm
    obtain ⟨S', F⟩ := lay_box S (by simp) hf (a.eval x).cells t (cellsOf m) hcell.1 hcell.2
    exact up_value hr h S' (.ptr setR_self) F
  split at h
  · rename_i cs e; exact key _ e (.inr ⟨cs, rfl⟩) h
  · split at h
    · rename_i hm; exact key _ rfl (.inl hm) (by rw [cellsOf_one hm]; exact h)
    · simp at h
end
end Kw
namespace Kw
set_option linter.unusedVariables false
set_option linter.unusedSimpArgs false
set_option linter.unusedSectionVars false
open Go
variable [Gl]
def G.guard (g : G) (b : Nat) : G := ⟨g.rho, fun b' => g.prot b' ∨ b' = b⟩
section
variable {fr : Fr} {g : G} {tmps : Array Value} {w : World}
theorem later_guard (S : SimO fr.ob g w) {ob' : Ob} {b : Nat} (hc : ∀ h, cur ob' h = cur fr.ob h) : Later g (g.guard b) (cur fr.ob) (cur ob') w w :=
  ⟨fun _ _ e => .inl e, fun h _ _ _ e => .inr ⟨by rw [hc]; exact Int.le_refl _, .inl e⟩, fun h e => .inr ⟨by rw [hc]; exact Int.le_refl _, .inl e⟩, fun _ e => e, fun _ h => .inl h, fun _ _ => rfl⟩
theorem fm_guard (h : H) {b : Nat} (e : (g.rho h).blk = some b) : Fm g w (g.guard b) w :=
  ⟨rfl, rfl, rfl, Nat.le_refl _, fun _ _ _ => rfl, fun h' b' e' => .inr ⟨h', e'⟩, fun _ hp => .inl hp, fun b' hp => hp.elim .inl (fun e' => .inr (.inr ⟨h, by rw [e']; exact e⟩)), fun _ => .inl rfl⟩
theorem cur_froz {ob : Ob} {h : H} {x : List Row} (e : look ob h = .rows x) (h' : H) : cur (put ob h (.froz x)) h' = cur ob h' := by
  by_cases eh : h' = h
  · subst eh; unfold cur; rw [look_put, e]
  · exact cur_put_ne eh
theorem sv_rows {arr : Array Value} {ty : TypeId} {b cap sz : Nat} {rs : List Row} {p : Nat → Prop} (hp : p b) (hh : w.heap[b]? = some (.cells arr ty (0, 0))) (hl : rs.length ≤ cap) (hr : RowsR w p arr sz rs) :
    SV w p (.slice (some ⟨b, 0, none⟩) rs.length cap) (.sl rs) := by
  have key : ∀ (i : Nat) (row : Row) (j : Nat) (m : MV), rs[i]? = some row → row[j]? = some m → arr[i * sz + j]? = some (arr.getD (i * sz + j) undef) ∧ SV w p (arr.getD (i * sz + j) undef) m := by
    intro i row j m h1 h2
    obtain ⟨v, hv, hs⟩ := (hr i row h1).2 j m h2
    rw [Array.getD_eq_getD_getElem?, hv]; exact ⟨rfl, hs⟩
  exact .sl sz (fun i j => arr.getD (i * sz + j) undef) rfl hl (fun i row h => (hr i row h).1)
    (fun _ => ⟨⟨b, 0, none⟩, rfl, rfl, hp, fun i row j m h1 h2 => by rw [cell_cells hh]; simpa using (key i row j m h1 h2).1⟩) (fun i row j m h1 h2 => (key i row j m h1 h2).2)
/-- an own slice is frozen -/
theorem freeze_obj (S : Sim fr g tmps w) {h : H} {x : List Row} {n : Int} {v : Value} (e : fr.obj h = .rows x) (hn : n = nrows x) (hv : RV g (cur fr.ob) w v (.ref h n)) :
    ∃ g', Sim (fr.setObj h (.froz x)) g' tmps w ∧ SV w g'.prot v (.sl x) ∧ Later g g' (cur fr.ob) (cur (fr.setObj h (.froz x)).ob) w w ∧ Fm g w g' w ∧ g'.rho = g.rho ∧ ∀ b, g'.prot b → g.prot b ∨ (g.rho h).blk = some b := by
  have hcur : n = cur fr.ob h := by unfold cur; unfold Fr.obj at e; rw [e]; exact hn
  have hc : ∀ h', cur (put fr.ob h (.froz x)) h' = cur fr.ob h' := cur_froz e
  rcases obj_of S.o e (by simp) with ⟨er, ex⟩ | ⟨b, cap, sz, arr, ty, er, hh, hnp, hs, hl, hr⟩
  · subst ex
    obtain ⟨a0, ev⟩ := rv_refN hv er hcur
    have L : Later g g (cur fr.ob) (cur (put fr.ob h (.froz []))) w w :=
      ⟨fun _ _ e => .inl e, fun h _ _ _ e => .inr ⟨by rw [hc]; exact Int.le_refl _, .inl e⟩, fun h e => .inr ⟨by rw [hc]; exact Int.le_refl _, .inl e⟩, fun _ e => e, fun _ h => h, fun _ _ => rfl⟩
    refine ⟨g, S.later L (S.o.upd h _ (fun _ _ => rfl) (by rw [er]; simp) L (fun _ _ _ _ => rfl) (fun _ _ _ _ hn => hn) (.inl ⟨er, rfl⟩) (fun h' b _ e1 => by rw [er] at e1; cases e1) (fun b e1 => by rw [er] at e1; cases e1) (Nat.le_refl _) S.o.plt), ?_, L, Fm.refl _ _, rfl, fun _ hp => .inl hp⟩
    rw [ev]
    exact .sl 0 (fun _ _ => undef) rfl (Nat.le_refl _) (fun i row h => by simp at h) (fun h => by simp at h) (fun i row j m h => by simp at h)
  · have ev := rv_ref hv er hcur
    have L : Later g (g.guard b) (cur fr.ob) (cur (put fr.ob h (.froz x))) w w := later_guard S.o hc
    have hr' : RowsR w (g.guard b).prot arr sz x := hr.mono (fun _ h => .inl h) (fun _ _ => rfl)
    have hb : (g.rho h).blk = some b := by rw [er]; rfl
    refine ⟨g.guard b, S.later L (S.o.upd h _ (fun _ _ => rfl) (by show g.rho h ≠ _; rw [er]; simp) L (fun _ _ _ _ => rfl) (fun h' b' ne e1 hn hp => ?_) (.inr ⟨b, cap, sz, arr, ty, er, hh, .inr rfl, hs, hl, hr'⟩)
      (fun h' b' ne e1 e2 => ne (S.o.inj h' h b' e2 e1)) (fun b' e1 => S.o.lt h b' e1) (Nat.le_refl _) (fun b' hp => hp.elim (S.o.plt b') (fun e => e ▸ S.o.lt h b hb))), ?_, L, fm_guard h hb, rfl, fun b' hp => hp.imp id (fun e => by rw [e]; exact hb)⟩
    · rcases hp with hp | hp
      · exact hn hp
      · subst hp; exact ne (S.o.inj h' h _ e1 hb)
    · rw [ev, hn]
      have : (nrows x).toNat = x.length := by unfold nrows; simp
      rw [this]
      exact sv_rows (.inr rfl) hh hl hr'
theorem froz_sv (S : Sim fr g tmps w) {h : H} {x : List Row} {n : Int} {v : Value} (e : fr.obj h = .froz x) (hn : n = nrows x) (hv : RV g (cur fr.ob) w v (.ref h n)) : SV w g.prot v (.sl x) := by
  have hcur : n = cur fr.ob h := by unfold cur; unfold Fr.obj at e; rw [e]; exact hn
  rcases obj_of S.o e (by simp) with ⟨er, ex⟩ | ⟨b, cap, sz, arr, ty, er, hh, hp, hs, hl, hr⟩
  · subst ex
    obtain ⟨a0, ev⟩ := rv_refN hv er hcur
    rw [ev]
    exact .sl 0 (fun _ _ => undef) rfl (Nat.le_refl _) (fun i row h => by simp at h) (fun h => by simp at h) (fun i row j m h => by simp at h)
  · rw [rv_ref hv er hcur, hn]
    have : (nrows x).toNat = x.length := by unfold nrows; simp
    rw [this]
    exact sv_rows hp hh hl hr
theorem sv_nil (w : World) (p : Nat → Prop) {a : Option Addr} : SV w p (.slice a 0 0) (.sl []) :=
  .sl 0 (fun _ _ => undef) rfl (Nat.le_refl _) (fun i row h => by simp at h) (fun h => by simp at h) (fun i row j m h => by simp at h)
theorem iEq_true {a b : Int} (h : iEq a b = true) : a = b := by simpa [iEq] using h
variable {R : Type} {r : R}
/-- what is known when something was frozen on the way -/
structure Froze (fr fr' : Fr) (g g' : G) (tmps : Array Value) (w : World) : Prop where
  sim : Sim fr' g' tmps w
  later : Later g g' (cur fr.ob) (cur fr'.ob) w w
  fm : Fm g w g' w
  sl : fr'.sl = fr.sl
theorem Later.refl {ob : Ob} : Later g g (cur ob) (cur ob) w w :=
  ⟨fun _ _ e => .inl e, fun _ _ _ _ e => .inr ⟨Int.le_refl _, .inl e⟩, fun _ e => .inr ⟨Int.le_refl _, .inl e⟩, fun _ e => e, fun _ h => h, fun _ _ => rfl⟩
theorem Froze.refl (S : Sim fr g tmps w) : Froze fr fr g g tmps w := ⟨S, Later.refl, Fm.refl _ _, rfl⟩
theorem freeze1_ok {m : MV} {k : MV → Fr → Option R} {v : Value} (h : freeze1 fr m k = some r) (S : Sim fr g tmps w) (hv : RV g (cur fr.ob) w v m) :
    ∃ m' fr' g', k m' fr' = some r ∧ Froze fr fr' g g' tmps w ∧ SV w g'.prot v m' := by
  unfold freeze1 at h
  split at h
  · split at h
    · rename_i x e
      rcases br_some h with ⟨en, h⟩ | ⟨_, h⟩
      · obtain ⟨g', S', sv, L, F, _⟩ := freeze_obj S e (iEq_true en) hv
        exact ⟨_, _, g', h, ⟨S', L, F, rfl⟩, sv⟩
      · simp at h
    · rename_i x e
      rcases br_some h with ⟨en, h⟩ | ⟨_, h⟩
      · exact ⟨_, _, g, h, Froze.refl S, froz_sv S e (iEq_true en) hv⟩
      · simp at h
    · simp at h
  · refine ⟨_, _, g, h, Froze.refl S, ?_⟩
    cases hv with
    | sv h => cases h
    | nils => exact sv_nil _ _
  · rw [rv_bool hv]; exact ⟨_, _, g, h, Froze.refl S, .bool _⟩
  · rw [rv_int hv]; exact ⟨_, _, g, h, Froze.refl S, .int _ _⟩
  · rw [rv_str hv]; exact ⟨_, _, g, h, Froze.refl S, .str _⟩
  · exact ⟨_, _, g, h, Froze.refl S, rv_sl hv⟩
  · simp at h
end
end Kw
namespace Kw
set_option linter.unusedVariables false
set_option linter.unusedSimpArgs false
set_option linter.unusedSectionVars false
open Go
variable [Gl]
inductive Rl (Rr : Value → MV → Prop) : List Value → List MV → Prop
  | nil : Rl Rr [] []
  | cons {v : Value} {m : MV} {vs : List Value} {ms : List MV} (h : Rr v m) (t : Rl Rr vs ms) : Rl Rr (v :: vs) (m :: ms)
section
variable {Rr Rr' : Value → MV → Prop}
theorem rl_of : ∀ (vs : List Value) (ms : List MV), vs.length = ms.length → (∀ (j : Nat) (v : Value) (m : MV), vs[j]? = some v → ms[j]? = some m → Rr v m) → Rl Rr vs ms
  | [], [], _, _ => .nil
  | v :: vs, m :: ms, hl, h => .cons (h 0 v m rfl rfl) (rl_of vs ms (by simpa using hl) (fun j v m h1 h2 => h (j + 1) v m h1 h2))
  | [], _ :: _, hl, _ => by simp at hl
  | _ :: _, [], hl, _ => by simp at hl
theorem Rl.len {vs : List Value} {ms : List MV} (h : Rl Rr vs ms) : vs.length = ms.length := by
  induction h with
  | nil => rfl
  | cons _ _ ih => simp [ih]
theorem Rl.at {vs : List Value} {ms : List MV} (h : Rl Rr vs ms) : ∀ (j : Nat) (v : Value) (m : MV), vs[j]? = some v → ms[j]? = some m → Rr v m := by
  induction h with
  | nil => intro j v m h; simp at h
  | cons h _ ih =>
    intro j v m h1 h2
    cases j with
    | zero => simp at h1 h2; rw [← h1, ← h2]; exact h
    | succ j => exact ih j v m (by simpa using h1) (by simpa using h2)
theorem Rl.mono {vs : List Value} {ms : List MV} (h : Rl Rr vs ms) (hm : ∀ v m, Rr v m → Rr' v m) : Rl Rr' vs ms := by
  induction h with
  | nil => exact .nil
  | cons h _ ih => exact .cons (hm _ _ h) ih
theorem Rl.append {vs vs' : List Value} {ms ms' : List MV} (h : Rl Rr vs ms) (h' : Rl Rr vs' ms') : Rl Rr (vs ++ vs') (ms ++ ms') := by
  induction h with
  | nil => exact h'
  | cons h _ ih => exact .cons h ih
theorem Rl.get {vs : List Value} {ms : List MV} (h : Rl Rr vs ms) {j : Nat} {m : MV} (hj : ms[j]? = some m) : ∃ v, vs[j]? = some v ∧ Rr v m := by
  have hl := h.len
  have : j < ms.length := (List.getElem?_eq_some_iff.1 hj).1
  have hv : vs[j]? = some (vs[j]'(by omega)) := List.getElem?_eq_getElem (by omega)
  exact ⟨_, hv, h.at j _ m hv hj⟩
theorem Rl.set {vs : List Value} {ms : List MV} (h : Rl Rr vs ms) {v : Value} {m : MV} (hv : Rr v m) (j : Nat) : Rl Rr (vs.set j v) (ms.set j m) := by
  induction h generalizing j with
  | nil => exact .nil
  | cons h t ih => cases j with
    | zero => exact .cons hv t
    | succ j => exact .cons h (ih j)
/-- cells stored one behind the other -/
def setV (r : List Value) (c : Nat) : List Value → List Value
  | [] => r
  | v :: vs => setV (r.set c v) (c + 1) vs
theorem rl_setC {vs : List Value} {ms : List MV} (h : Rl Rr vs ms) : ∀ {rv : List Value} {rm : Row} (c : Nat), Rl Rr rv rm → Rl Rr (setV rv c vs) (setC rm c ms) := by
  induction h with
  | nil => intro rv rm c h; exact h
  | cons h _ ih => intro rv rm c hr; exact ih (c + 1) (hr.set h c)
theorem setV_eq : ∀ (vs r : List Value) (c : Nat), c + vs.length ≤ r.length → setV r c vs = r.take c ++ vs ++ r.drop (c + vs.length)
  | [], r, c, _ => by simp [setV]
  | v :: vs, r, c, h => by
    simp only [List.length_cons] at h
    rw [setV, setV_eq vs (r.set c v) (c + 1) (by simp; omega), list_seg_step r c v vs (by omega)]
    simp only [List.length_cons]
end
section
variable {fr : Fr} {g : G} {tmps : Array Value} {w : World}
theorem Later.trans {g1 g2 g3 : G} {c1 c2 c3 : H → Int} {w1 w2 w3 : World} (a : Later g1 g2 c1 c2 w1 w2) (b : Later g2 g3 c2 c3 w2 w3) : Later g1 g3 c1 c3 w1 w3 where
  box := fun h x e => by
    rcases a.box h x e with e' | e'
    · exact b.box h x e'
    · exact .inr (b.dead h e')
  mem := fun h x c s e => by
    rcases a.mem h x c s e with e' | ⟨hc, e' | ⟨hl, x', c', s', e'⟩⟩
    · exact .inl (b.dead h e')
    · rcases b.mem h x c s e' with e'' | ⟨hc', e'' | ⟨hl, y⟩⟩
      · exact .inl e''
      · exact .inr ⟨by omega, .inl e''⟩
      · exact .inr ⟨by omega, .inr ⟨by omega, y⟩⟩
    · rcases b.mem h x' c' s' e' with e'' | ⟨hc', e'' | ⟨hl', y⟩⟩
      · exact .inl e''
      · exact .inr ⟨by omega, .inr ⟨by omega, _, _, _, e''⟩⟩
      · exact .inr ⟨by omega, .inr ⟨by omega, y⟩⟩
  nil := fun h e => by
    rcases a.nil h e with e' | ⟨hc, e' | ⟨hl, x', c', s', e'⟩⟩
    · exact .inl (b.dead h e')
    · rcases b.nil h e' with e'' | ⟨hc', e'' | ⟨hl, y⟩⟩
      · exact .inl e''
      · exact .inr ⟨by omega, .inl e''⟩
      · exact .inr ⟨by omega, .inr ⟨by omega, y⟩⟩
    · rcases b.mem h x' c' s' e' with e'' | ⟨hc', e'' | ⟨hl', y⟩⟩
      · exact .inl e''
      · exact .inr ⟨by omega, .inr ⟨by omega, _, _, _, e''⟩⟩
      · exact .inr ⟨by omega, .inr ⟨by omega, y⟩⟩
  dead := fun h e => b.dead h (a.dead h e)
  prot := fun x h => b.prot x (a.prot x h)
  heap := fun x h => (b.heap x (a.prot x h)).trans (a.heap x h)
theorem Froze.trans {fr1 fr2 fr3 : Fr} {g1 g2 g3 : G} (a : Froze fr1 fr2 g1 g2 tmps w) (b : Froze fr2 fr3 g2 g3 tmps w) : Froze fr1 fr3 g1 g3 tmps w :=
  ⟨b.sim, a.later.trans b.later, a.fm.trans b.fm, b.sl.trans a.sl⟩
variable {R : Type} {r : R}
theorem SV.up {g g' : G} {c c' : H → Int} {w w' : World} {v : Value} {m : MV} (h : SV w g.prot v m) (L : Later g g' c c' w w') : SV w' g'.prot v m := h.mono L.prot L.heap
theorem freezeL_ok : ∀ {ms : List MV} {vs : List Value} {fr : Fr} {g : G} {k : List MV → Fr → Option R}, freezeL ms fr k = some r → Sim fr g tmps w → Rl (RV g (cur fr.ob) w) vs ms →
    ∃ ms' fr' g', k ms' fr' = some r ∧ Froze fr fr' g g' tmps w ∧ Rl (SV w g'.prot) vs ms'
  | [], _, fr, g, k, h, S, hv => by cases hv; exact ⟨[], fr, g, h, Froze.refl S, .nil⟩
  | m :: ms, _, fr, g, k, h, S, hv => by
    cases hv with
    | cons hm ht =>
      unfold freezeL at h
      obtain ⟨m', fr1, g1, h, F1, sv⟩ := freeze1_ok h S hm
      obtain ⟨ms', fr2, g2, h, F2, svs⟩ := freezeL_ok h F1.sim (ht.mono fun _ _ h => h.mono F1.later)
      exact ⟨_, fr2, g2, h, F1.trans F2, .cons (sv.up F2.later) svs⟩
/-- a slice's rows -/
theorem rows_ok {m : MV} {v : Value} {k : List Row → Option R} (h : fr.rows m k = some r) (S : Sim fr g tmps w) (hv : RV g (cur fr.ob) w v m) :
    ∃ rows a c, k rows = some r ∧ v = .slice a rows.length c ∧ rows.length ≤ c ∧
      ∃ (sz : Nat) (vf : Nat → Nat → Value), (∀ (i : Nat) (row : Row), rows[i]? = some row → row.length = sz) ∧
        (0 < rows.length → ∃ ad : Addr, a = some ad ∧ ad.spot = none ∧ ∀ (i : Nat) (row : Row) (j : Nat) (m : MV), rows[i]? = some row → row[j]? = some m → w.cell? ⟨ad.block, ad.off + (i * sz + j), none⟩ = some (vf i j)) ∧
        (∀ (i : Nat) (row : Row) (j : Nat) (m : MV), rows[i]? = some row → row[j]? = some m → SV w g.prot (vf i j) m) := by
  unfold Fr.rows at h
  have hmem : ∀ {hd : H} {n : Int} {x : List Row}, RV g (cur fr.ob) w v (.ref hd n) → n = nrows x → cur fr.ob hd = nrows x → (g.rho hd = .nil ∧ x = [] ∨ ∃ b cap sz arr ty, g.rho hd = .mem b cap sz ∧ w.heap[b]? = some (.cells arr ty (0, 0)) ∧ x.length ≤ cap ∧ RowsR w g.prot arr sz x) →
      k x = some r → ∃ rows a c, k rows = some r ∧ v = .slice a rows.length c ∧ rows.length ≤ c ∧
      ∃ (sz : Nat) (vf : Nat → Nat → Value), (∀ (i : Nat) (row : Row), rows[i]? = some row → row.length = sz) ∧
        (0 < rows.length → ∃ ad : Addr, a = some ad ∧ ad.spot = none ∧ ∀ (i : Nat) (row : Row) (j : Nat) (m : MV), rows[i]? = some row → row[j]? = some m → w.cell? ⟨ad.block, ad.off + (i * sz + j), none⟩ = some (vf i j)) ∧
        (∀ (i : Nat) (row : Row) (j : Nat) (m : MV), rows[i]? = some row → row[j]? = some m → SV w g.prot (vf i j) m) := by
    intro hd n x hv hn hc ho h
    rcases ho with ⟨e, ex⟩ | ⟨b, cap, sz, arr, ty, e, hh, hle, hr⟩
    · subst ex
      obtain ⟨a0, ev⟩ := rv_refN hv e (by rw [hc]; exact hn)
      refine ⟨[], a0, 0, h, ev, Nat.le_refl _, 0, fun _ _ => undef, fun i row h => by simp at h, fun h => by simp at h, fun i row j m h => by simp at h⟩
    · have ev := rv_ref hv e (by rw [hc]; exact hn)
      have e1 : n.toNat = x.length := by rw [hn]; unfold nrows; simp
      rw [e1] at ev
      refine ⟨x, _, cap, h, ev, hle, sz, fun i j => arr.getD (i * sz + j) undef, fun i row h => (hr i row h).1, fun _ => ⟨⟨b, 0, none⟩, rfl, rfl, fun i row j m h1 h2 => ?_⟩, fun i row j m h1 h2 => ?_⟩
      · obtain ⟨u, hu, _⟩ := (hr i row h1).2 j m h2
        rw [cell_cells hh]; simp [hu, Array.getD_eq_getD_getElem?]
      · obtain ⟨u, hu, hs⟩ := (hr i row h1).2 j m h2
        show SV w g.prot (arr.getD (i * sz + j) undef) m
        rw [Array.getD_eq_getD_getElem?, hu]; exact hs
  split at h
  · cases rv_sl hv with
    | sl sz vf hn hc hrow had hsv =>
      subst hn
      exact ⟨_, _, _, h, rfl, hc, sz, vf, hrow, fun h0 => let ⟨ad, e, hs, _, hcell⟩ := had h0; ⟨ad, e, hs, hcell⟩, hsv⟩
  · cases hv with
    | sv h => cases h
    | nils => exact ⟨[], none, 0, h, rfl, Nat.le_refl _, 0, fun _ _ => undef, fun i row h => by simp at h, fun h => by simp at h, fun i row j m h => by simp at h⟩
  · split at h
    · rename_i x e
      rcases br_some h with ⟨en, h⟩ | ⟨_, h⟩
      · refine hmem hv (iEq_true en) (by unfold cur; unfold Fr.obj at e; rw [e]) ?_ h
        rcases obj_of S.o e (by simp) with y | ⟨b, cap, sz, arr, ty, e, hh, _, _, hle, hr⟩
        · exact .inl y
        · exact .inr ⟨b, cap, sz, arr, ty, e, hh, hle, hr⟩
      · simp at h
    · rename_i x e
      rcases br_some h with ⟨en, h⟩ | ⟨_, h⟩
      · refine hmem hv (iEq_true en) (by unfold cur; unfold Fr.obj at e; rw [e]) ?_ h
        rcases obj_of S.o e (by simp) with y | ⟨b, cap, sz, arr, ty, e, hh, _, _, hle, hr⟩
        · exact .inl y
        · exact .inr ⟨b, cap, sz, arr, ty, e, hh, hle, hr⟩
      · simp at h
    · simp at h
  · simp at h
end
end Kw
namespace Kw
set_option linter.unusedVariables false
set_option linter.unusedSimpArgs false
set_option linter.unusedSectionVars false
open Go
variable [Gl]
section
variable {P : Program} {R : Type} {r : R} {k : Fr → Option R} {fr : Fr} {g : G} {a : Act} {w : World} {o : Oper} {Q : Exit → Act → World → Prop}
theorem live_ok {m : MV} {v : Value} {k : Option R} (h : fr.live m k = some r) (S : Sim fr g a.tmps w) (hv : RV g (cur fr.ob) w v m) : k = some r ∧
    (∀ hh off, m = .ptr hh off → ∃ b, g.rho hh = .box b) ∧ (∀ hh n i c, m = .ptrE hh n i c → n = cur fr.ob hh ∧ ∃ b cap s, g.rho hh = .mem b cap s) := by
  unfold Fr.live at h
  have he : ∀ {hh : H} {n i : Int} {c : Nat} {x : List Row}, RV g (cur fr.ob) w v (.ptrE hh n i c) → iEq n (nrows x) = true → (fr.obj hh = .rows x ∨ fr.obj hh = .froz x) → n = cur fr.ob hh ∧ ∃ b cap s, g.rho hh = .mem b cap s := by
    intro hh n i c x hv en e
    have hc : n = cur fr.ob hh := by
      unfold cur; unfold Fr.obj at e
      rcases e with e | e <;> rw [e] <;> exact iEq_true en
    refine ⟨hc, ?_⟩
    cases hv with
    | sv h => cases h
    | ptrE e' => exact ⟨_, _, _, e'⟩
    | ptrEN _ _ hz => exact absurd hc hz
    | deadE e' =>
      rcases e with e | e
      · rcases obj_of S.o e (by simp) with ⟨y, _⟩ | ⟨_, _, _, _, _, y, _⟩ <;> rw [e'] at y <;> cases y
      · rcases obj_of S.o e (by simp) with ⟨y, _⟩ | ⟨_, _, _, _, _, y, _⟩ <;> rw [e'] at y <;> cases y
  split at h
  · split at h
    · rename_i hh off cs e
      obtain ⟨b, _, _, eb, _⟩ := obj_of S.o e (by simp)
      exact ⟨h, fun _ _ e => by cases e; exact ⟨b, eb⟩, fun _ _ _ _ e => by cases e⟩
    · simp at h
  · split at h
    · rename_i x e
      rcases br_some h with ⟨en, h⟩ | ⟨_, h⟩
      · exact ⟨h, fun _ _ e => by (cases e), fun _ _ _ _ e' => by (cases e'; exact he hv en (.inl e))⟩
      · simp at h
    · rename_i x e
      rcases br_some h with ⟨en, h⟩ | ⟨_, h⟩
      · exact ⟨h, fun _ _ e => by (cases e), fun _ _ _ _ e' => by (cases e'; exact he hv en (.inr e))⟩
      · simp at h
    · simp at h
  · rename_i h1 h2
    exact ⟨h, fun hh off e => absurd e (h1 hh off), fun hh n i c e => absurd e (h2 hh n i c)⟩
theorem s_nilCheck {x : Operand} (ho : o.op = .nilCheck x) (h : fr.live (opnd fr x) (match opnd fr x with | .ptr h o' => k (fr.finish o.dst (.ptr h o')) | .fn g c => k (fr.finish o.dst (.fn g c)) | .ptrE h n i c => k (fr.finish o.dst (.ptrE h n i c)) | .ptrS r c => k (fr.finish o.dst (.ptrS r c)) | _ => none) = some r)
    (S : Sim fr g a.tmps w) :
    o.upon P a (Good r k g w a) Q ((execOp a.eval o).run P w) := by
  have hx := opnd_rv S x
  obtain ⟨h, hd, he⟩ := live_ok h S hx
  split at h
  · rename_i hh off ex
    obtain ⟨b, e⟩ := hd hh off ex
    rw [ex] at hx
    have ev := rv_ptr hx e
    refine up_value (v := a.eval x) ?_ h S hx (Fm.refl _ _)
    unfold execOp; rw [ho]; generalize a.eval = ρ at *; simp [ev]
  · rename_i gg c ex
    rw [ex] at hx
    obtain ⟨vs, ev, _⟩ := rv_fn hx
    refine up_value (v := a.eval x) ?_ h S hx (Fm.refl _ _)
    unfold execOp; rw [ho]; generalize a.eval = ρ at *; simp [ev]
  · rename_i hh n i c ex
    obtain ⟨en, b, cap, s, e⟩ := he hh n i c ex
    rw [ex] at hx
    have ev := rv_ptrE hx e en
    refine up_value (v := a.eval x) ?_ h S hx (Fm.refl _ _)
    unfold execOp; rw [ho]; generalize a.eval = ρ at *; simp [ev]
  · rename_i row c ex
    rw [ex] at hx
    obtain ⟨ad, vf, ev, _⟩ := rv_ptrS hx
    refine up_value (v := a.eval x) ?_ h S hx (Fm.refl _ _)
    unfold execOp; rw [ho]; generalize a.eval = ρ at *; simp [ev]
  · simp at h
theorem elemT_some {t e : TypeId} (h : elemT P t = some e) : P.underlying t = some (.slice e) ∧ ∃ f, P.info? e = some f := by
  unfold elemT at h
  split at h
  · rename_i e' hu
    split at h
    · rename_i f hf; cases h; exact ⟨hu, f, hf⟩
    · simp at h
  · simp at h
theorem fieldOff_some {t : TypeId} {f : Nat} {p : Nat × TypeId} (h : fieldOff P t f = some p) : ∃ (fs : Array Field) (x : Field), P.underlying t = some (.struct fs) ∧ fs[f]? = some x ∧ p = (x.offset, x.type) := by
  unfold fieldOff at h
  split at h
  · rename_i fs e
    split at h
    · rename_i x ex; exact ⟨fs, x, e, ex, by simpa using h.symm⟩
    · simp at h
  · simp at h
theorem size_info {t : TypeId} (h : tsize P t ≠ 0) : ∃ i, P.info? t = some i := by
  unfold tsize at h
  split at h
  · rename_i i e; exact ⟨i, e⟩
  · simp at h
theorem run_fieldPlace {f : Field} {b off : Nat} (h : tsize P f.type ≠ 0) : (fieldPlace ⟨b, off, none⟩ f).run P w = .ok ⟨b, off + f.offset, none⟩ w := by
  obtain ⟨i, hi⟩ := size_info h
  unfold fieldPlace
  simp [run_size hi, h, addAt]
theorem s_fieldAddr {t : TypeId} {x : Operand} {f : Nat} (ho : o.op = .fieldAddr t x f) (h : (bnd (fieldOff P t f) fun p => if tsize P p.2 = 0 then none else fr.live (opnd fr x) (match opnd fr x with
      | .ptr h o' => k (fr.finish o.dst (.ptr h (o' + p.1)))
      | .ptrS row c => k (fr.finish o.dst (.ptrS row (c + p.1)))
      | .ptrE h n i c => k (fr.finish o.dst (.ptrE h n i (c + p.1)))
      | _ => none)) = some r)
    (S : Sim fr g a.tmps w) :
    o.upon P a (Good r k g w a) Q ((execOp a.eval o).run P w) := by
  have hx := opnd_rv S x
  obtain ⟨p, hp, h⟩ := bnd_some h
  obtain ⟨fs, fl, hu, hf, ep⟩ := fieldOff_some hp
  subst ep
  split at h
  · simp at h
  rename_i hz
  obtain ⟨h, hd, he⟩ := live_ok h S hx
  have hrun : ∀ b off, a.eval x = .pointer (some ⟨b, off, none⟩) → (execOp a.eval o).run P w = .ok (.value (.pointer (some ⟨b, off + fl.offset, none⟩))) w := by
    intro b off e
    unfold execOp; rw [ho]; generalize a.eval = ρ at *
    simp [e, Instr.fieldAt, run_und hu, hf, Instr.sureAddr, run_fieldPlace hz]
  split at h
  · rename_i hh off ex
    obtain ⟨b, e⟩ := hd hh off ex
    rw [ex] at hx
    have ev := rv_ptr hx e
    exact up_value (hrun b off ev) h S (.ptr e) (Fm.refl _ _)
  · rename_i row c ex
    rw [ex] at hx
    obtain ⟨ad, vf, ev, hp, hc, hs⟩ := rv_ptrS hx
    have := hrun _ _ ev
    rw [Nat.add_assoc] at this
    exact up_value this h S (.ptrS (ad := ⟨ad.block, ad.off, none⟩) vf hp rfl hc hs) (Fm.refl _ _)
  · rename_i hh n i c ex
    obtain ⟨en, b, cap, s, e⟩ := he hh n i c ex
    rw [ex] at hx
    have ev := rv_ptrE hx e en
    have := hrun _ _ ev
    rw [Nat.add_assoc] at this
    exact up_value this h S (.ptrE e (by rw [en]; exact Int.le_refl _) (fun _ => rfl) rfl) (Fm.refl _ _)
  · simp at h
end
end Kw
namespace Kw
set_option linter.unusedVariables false
set_option linter.unusedSimpArgs false
set_option linter.unusedSectionVars false
open Go
variable [Gl]
section
variable {P : Program} {R : Type} {r : R} {k : Fr → Option R} {fr : Fr} {g : G} {a : Act} {w : World} {o : Oper} {Q : Exit → Act → World → Prop}
theorem run_part {t : TypeId} (hk : okT P t = true) {vs : Array Value} {off : Nat} (hl : off + tsize P t ≤ vs.size) :
    (part t vs off).run P w = .ok (if isAgg P t then .agg ((List.range (tsize P t)).map fun j => vs.getD (off + j) undef).toArray else vs.getD (off + 0) undef) w := by
  obtain ⟨⟨d, hu⟩, h1, _⟩ := okT_iff hk
  obtain ⟨i, hi⟩ := und_info hu
  unfold part
  simp only [Sem.run_bind, run_isAgg hu, Result.andThen_ok]
  cases e : isAgg P t with
  | true =>
    simp only [run_size hi, if_true, Result.andThen_ok, Sem.run_bind, Sem.run_pure]
    congr 2
    apply Array.ext
    · simp; omega
    · intro j h2 h3
      simp at h2 h3
      simp
      rw [Array.getElem?_eq_getElem (by omega)]; rfl
  | false =>
    have := h1 e
    simp only [Bool.false_eq_true, if_false]
    rw [Array.getD_eq_getD_getElem?, Array.getElem?_eq_getElem (show off + 0 < vs.size by omega), Array.getElem?_eq_getElem (show off < vs.size by omega)]
    simp
theorem s_field {t : TypeId} {x : Operand} {f : Nat} (ho : o.op = .field t x f) (h : (bnd (fieldOff P t f) fun p => (match opnd fr x with
      | .agg cs => if okT P p.2 && Nat.ble (p.1 + tsize P p.2) cs.length then k (fr.finish o.dst (pack P p.2 ((cs.drop p.1).take (tsize P p.2)))) else none
      | _ => none)) = some r) (S : Sim fr g a.tmps w) :
    o.upon P a (Good r k g w a) Q ((execOp a.eval o).run P w) := by
  have hx := opnd_rv S x
  obtain ⟨p, hp, h⟩ := bnd_some h
  obtain ⟨fs, fl, hu, hf, ep⟩ := fieldOff_some hp
  subst ep
  split at h
  · rename_i cs ex
    split at h
    · rename_i hc
      simp only [Bool.and_eq_true, Nat.ble_eq] at hc
      obtain ⟨hk, hl⟩ := hc
      rw [ex] at hx
      obtain ⟨vs, ev, hs, hr⟩ := rv_agg hx
      refine up_value ?_ h S (rv_pack hk (by simp; omega) (fun j => vs.getD (fl.offset + j) undef) (fun j m hj => ?_)) (Fm.refl _ _)
      · unfold execOp; rw [ho]; generalize a.eval = ρ at *
        simp only [ev, Instr.field, Sem.run_bind, run_und hu, Result.andThen_ok, hf, asAgg]
        simp only [Sem.run_pure, Result.andThen_ok]
        rw [run_part hk (by omega)]; simp
      · have hj' : j < tsize P fl.type := by
          have := (List.getElem?_eq_some_iff.1 hj).1
          simp at this; omega
        rw [List.getElem?_take_of_lt hj', List.getElem?_drop] at hj
        exact hr (fl.offset + j) _ m (by rw [Array.getD_eq_getD_getElem?, Array.getElem?_eq_getElem (by omega)]; simp) hj
    · simp at h
  · simp at h
theorem rowZ_some {sz : Nat} {rows : List Row} {n : Int} {row : Row} (h : rowZ sz rows n = some row) : 0 ≤ n ∧ rows[n.toNat]? = some row ∧ row.length = sz := by
  unfold rowZ at h
  split at h
  · rename_i h0
    split at h
    · rename_i x e
      split at h
      · rename_i hl; cases h; exact ⟨h0, e, hl⟩
      · simp at h
    · simp at h
  · simp at h
theorem run_indexAt {t e : TypeId} {x i : Operand} (ho : o.op = .indexAddr t x i) (hu : P.underlying t = some (.slice e)) (he : ∃ f, P.info? e = some f) {ρ : Operand → Value} {b off len c : Nat} {kd : IntKind} {n : Int}
    (hx : ρ x = .slice (some ⟨b, off, none⟩) len c) (hi : ρ i = .int kd n) (h0 : 0 ≤ n) (hn : n < len) :
    (execOp ρ o).run P w = .ok (.value (.pointer (some ⟨b, off + n.toNat * tsize P e, none⟩))) w := by
  obtain ⟨f, hf⟩ := he
  unfold execOp; rw [ho]
  simp [hx, hi, Instr.indexAt, asIntOf, run_und hu, h0, hn, run_size hf, addAt]
theorem s_indexAddr {t : TypeId} {x i : Operand} (ho : o.op = .indexAddr t x i) (h : (match opnd fr i, opnd fr x with
      | .int _ n, .sl rows => bnd (elemT P t) fun e => bnd (rowZ (tsize P e) rows n) fun row => k (fr.finish o.dst (.ptrS row 0))
      | .int _ n, .ref h m => bnd (elemT P t) fun e => fr.rows (.ref h m) fun rows => bnd (rowZ (tsize P e) rows n) fun _ => k (fr.finish o.dst (.ptrE h m n 0))
      | _, _ => none) = some r) (S : Sim fr g a.tmps w) :
    o.upon P a (Good r k g w a) Q ((execOp a.eval o).run P w) := by
  have hx := opnd_rv S x
  have hy := opnd_rv S i
  split at h
  · rename_i kd n rows ei ex
    rw [ex] at hx; rw [ei] at hy
    have hy := rv_int hy
    obtain ⟨e, he, h⟩ := bnd_some h
    obtain ⟨row, hrow, h⟩ := bnd_some h
    obtain ⟨h0, hr, hl⟩ := rowZ_some hrow
    obtain ⟨hu, hi⟩ := elemT_some he
    have hlt := (List.getElem?_eq_some_iff.1 hr).1
    have hsv := rv_sl hx
    generalize hv : a.eval x = v at hsv
    cases hsv with
    | sl sz vf hn hc hrow had hsv =>
      have hsz := hrow _ _ hr
      rw [hl] at hsz
      obtain ⟨ad, e1, hsp, hp, hcell⟩ := had (by omega)
      subst e1
      have e2 : ad = ⟨ad.block, ad.off, none⟩ := by cases ad; simp at hsp; subst hsp; rfl
      rw [e2] at hv
      refine up_value (run_indexAt ho hu hi hv hy h0 (by omega)) h S ?_ (Fm.refl _ _)
      refine .ptrS (ad := ⟨ad.block, ad.off + n.toNat * tsize P e, none⟩) (c := 0) (vf n.toNat) hp rfl (fun j m hj => ?_) (fun j m hj => hsv _ _ j m hr hj)
      rw [Nat.add_assoc, hsz]; exact hcell _ _ j m hr hj
  · rename_i kd n hd m ei ex
    rw [ex] at hx; rw [ei] at hy
    have hy := rv_int hy
    obtain ⟨e, he, h⟩ := bnd_some h
    obtain ⟨hu, hi⟩ := elemT_some he
    have key : ∀ rows : List Row, cur fr.ob hd = nrows rows → (g.rho hd = .nil ∧ rows = [] ∨ ∃ b cap sz arr ty, g.rho hd = .mem b cap sz ∧ w.heap[b]? = some (.cells arr ty (0, 0)) ∧ rows.length ≤ cap ∧ RowsR w g.prot arr sz rows) →
        (br (iEq m (nrows rows)) (bnd (rowZ (tsize P e) rows n) fun _ => k (fr.finish o.dst (.ptrE hd m n 0))) none) = some r →
        o.upon P a (Good r k g w a) Q ((execOp a.eval o).run P w) := by
      intro rows hcur hob h
      rcases br_some h with ⟨en, h⟩ | ⟨_, h⟩
      case inr => simp at h
      have hm : m = cur fr.ob hd := by rw [hcur]; exact iEq_true en
      obtain ⟨row, hrow, h⟩ := bnd_some h
      obtain ⟨h0, hr, hl⟩ := rowZ_some hrow
      have hlt := (List.getElem?_eq_some_iff.1 hr).1
      rcases hob with ⟨_, e⟩ | ⟨b, cap, sz, arr, ty, eg, hh, hle, hrr⟩
      · subst e; simp at hr
      · have hsz := (hrr _ _ hr).1
        rw [hl] at hsz
        have ev := rv_ref hx eg hm
        have e1 : m.toNat = rows.length := by rw [iEq_true en]; unfold nrows; simp
        rw [e1] at ev
        refine up_value (run_indexAt ho hu hi ev hy h0 (by omega)) h S (.ptrE eg (by rw [hm]; exact Int.le_refl _) (fun _ => ?_) rfl) (Fm.refl _ _)
        rw [hsz]; simp
    unfold Fr.rows at h
    simp only at h
    split at h
    · rename_i rows er
      refine key rows (by unfold cur; unfold Fr.obj at er; rw [er]) ?_ h
      rcases obj_of S.o er (by simp) with x | ⟨b, cap, sz, arr, ty, e, hh, _, _, hle, hrr⟩
      · exact .inl x
      · exact .inr ⟨b, cap, sz, arr, ty, e, hh, hle, hrr⟩
    · rename_i rows er
      refine key rows (by unfold cur; unfold Fr.obj at er; rw [er]) ?_ h
      rcases obj_of S.o er (by simp) with x | ⟨b, cap, sz, arr, ty, e, hh, _, _, hle, hrr⟩
      · exact .inl x
      · exact .inr ⟨b, cap, sz, arr, ty, e, hh, hle, hrr⟩
    · simp at h
  · simp at h
end
end Kw
namespace Kw
set_option linter.unusedVariables false
set_option linter.unusedSimpArgs false
set_option linter.unusedSectionVars false
open Go
variable [Gl]
section
variable {P : Program} {R : Type} {r : R} {k : Fr → Option R} {fr : Fr} {g : G} {a : Act} {w : World} {o : Oper} {Q : Exit → Act → World → Prop}
theorem bAnd_true {x y : Bool} (h : bAnd x y = true) : x = true ∧ y = true := by simpa [bAnd] using h
theorem iLe_true {x y : Int} (h : iLe x y = true) : x ≤ y := by simpa [iLe] using h
theorem iLt_true {x y : Int} (h : iLt x y = true) : x < y := by simpa [iLt] using h
theorem s_convert {src dst : TypeId} {x : Operand} (ho : o.op = .convert src dst x) (h : (match P.underlying src, P.underlying dst, opnd fr x with
      | some _, some (.int kd), .int _ n => k (fr.finish o.dst (.int kd (iWrap kd n)))
      | some _, some .string, .str s => k (fr.finish o.dst (.str s))
      | some _, some .string, .int _ n => br (bAnd (iLe 0 n) (iLt n 128)) (k (fr.finish o.dst (.str (sOne n)))) none
      | some (.slice e), some .string, m => if isByteT P e then fr.rows m fun rows => bnd (rowsStr rows) fun s => k (fr.finish o.dst (.str s)) else none
      | _, _, _ => none) = some r) (S : Sim fr g a.tmps w) :
    o.upon P a (Good r k g w a) Q ((execOp a.eval o).run P w) := by
  have hx := opnd_rv S x
  split at h
  · rename_i d kd kd' n e1 e2 ex
    rw [ex] at hx
    have hx := rv_int hx
    refine up_value (v := .int kd (kd.wrap n)) ?_ h S (.sv (.int _ _)) (Fm.refl _ _)
    unfold execOp; rw [ho]; generalize a.eval = ρ at *
    simp [hx, convert, run_und e1, run_und e2, Conv.intToInt]
  · rename_i d s e1 e2 ex
    rw [ex] at hx
    have hx := rv_str hx
    refine up_value (v := .string s) ?_ h S (.sv (.str _)) (Fm.refl _ _)
    unfold execOp; rw [ho]; generalize a.eval = ρ at *
    simp [hx, convert, run_und e1, run_und e2]
  · rename_i d kd n e1 e2 ex
    rw [ex] at hx
    have hx := rv_int hx
    rcases br_some h with ⟨hc, h⟩ | ⟨_, h⟩
    · obtain ⟨h0, h1⟩ := bAnd_true hc
      have h0 := iLe_true h0
      have h1 := iLt_true h1
      refine up_value (v := .string (sOne n)) ?_ h S (.sv (.str _)) (Fm.refl _ _)
      have hen : Utf8.encode n = sOne n := by
        unfold Utf8.encode Utf8.valid sOne
        have a1 : (decide (0 ≤ n) && decide (n < 55296)) = true := by simp; omega
        have a2 : n.toNat < 128 := by omega
        simp [a1, a2]
      unfold execOp; rw [ho]; generalize a.eval = ρ at *
      simp [hx, convert, run_und e1, run_und e2, Conv.intToString, hen]
    · simp at h
  · rename_i m e e1 e2 _ _
    split at h
    · rename_i hb
      have hbt : P.underlying e = some (.int .u8) := by unfold isByteT at hb; split at hb <;> simp_all
      obtain ⟨rows, ad, c, h, ev, hle, sz, vf, hrow, had, hsv⟩ := rows_ok h S hx
      obtain ⟨s, hs, h⟩ := bnd_some h
      unfold rowsStr at hs
      obtain ⟨bs, hbs, hs⟩ := bnd_some hs
      cases hs
      have hrb : ∀ (rows : List Row) (bs : List UInt8), rowsBytes1 rows = some bs → bs.length = rows.length ∧ ∀ (i : Nat) (row : Row), rows[i]? = some row → ∃ n : Int, row = [.int .u8 n] ∧ bs[i]? = some n.toNat.toUInt8 := by
        intro rows
        induction rows with
        | nil => intro bs h; simp [rowsBytes1] at h; subst h; exact ⟨rfl, fun i row h => by simp at h⟩
        | cons row rows ih =>
          intro bs h
          unfold rowsBytes1 at h
          split at h
          · rename_i h'; simp at h'
          · rename_i n rest h'
            cases h'
            obtain ⟨t, ht, h⟩ := bnd_some h
            cases h
            obtain ⟨hl, hi⟩ := ih t ht
            refine ⟨by simp [hl], fun i row h => ?_⟩
            cases i with
            | zero => simp at h; exact ⟨n, h.symm, rfl⟩
            | succ i => exact hi i row (by simpa using h)
          · simp at h
      obtain ⟨hbl, hbi⟩ := hrb rows bs hbs
      refine up_value (v := .string ⟨bs.toArray⟩) ?_ h S (.sv (.str _)) (Fm.refl _ _)
      unfold execOp; rw [ho]; generalize a.eval = ρ at *
      simp only [Sem.run_bind]
      rw [ev, run_convert_bytes_string w src dst e ad _ _ e1 hbt e2]
      by_cases h0 : rows.length = 0
      · have : rows = [] := List.eq_nil_of_length_eq_zero h0
        subst this
        have : bs = [] := List.eq_nil_of_length_eq_zero hbl
        subst this
        cases ad with
        | none => simp [Conv.bytesToString]; rfl
        | some ad =>
          rw [run_bytesToString w ad _ c [] (by simp [loadCells, loadCellsFrom])]
          simp; rfl
      · obtain ⟨ad', e3, hsp, hcell⟩ := had (by omega)
        subst e3
        have e4 : ad' = ⟨ad'.block, ad'.off, none⟩ := by cases ad'; simp at hsp; subst hsp; rfl
        have hone : sz = 1 := by
          have h1 : rows[0]? = some (rows[0]'(by omega)) := List.getElem?_eq_getElem (by omega)
          obtain ⟨n, hn, _⟩ := hbi 0 _ h1
          have := hrow 0 _ h1
          rw [hn] at this; simpa using this.symm
        subst hone
        have hv : ∀ i, i < rows.length → ∃ n : Int, vf i 0 = .int .u8 n ∧ bs[i]? = some n.toNat.toUInt8 ∧ w.cell? ⟨ad'.block, ad'.off + i, none⟩ = some (vf i 0) := by
          intro i hi
          have h1 : rows[i]? = some (rows[i]'hi) := List.getElem?_eq_getElem hi
          obtain ⟨n, hn, hb⟩ := hbi i _ h1
          rw [hn] at h1
          have := hsv i _ 0 _ h1 rfl
          refine ⟨n, ?_, hb, by simpa using hcell i _ 0 _ h1 rfl⟩
          generalize vf i 0 = z at this
          cases this; rfl
        have hld : (loadCells ad' rows.length).run P w = .ok ((List.range rows.length).map fun i => vf i 0).toArray w := by
          rw [e4]; exact run_cells (fun i => vf i 0) (fun j hj => (hv j hj).choose_spec.2.2)
        have hns : (List.range rows.length).map (fun i => vf i 0) = ((List.range rows.length).map fun i => (match vf i 0 with | .int _ n => n | _ => 0)).map (Value.int .u8) := by
          rw [List.map_map]
          apply List.map_congr_left
          intro i hi
          obtain ⟨n, hn, _⟩ := hv i (List.mem_range.1 hi)
          simp [hn]
        rw [hns] at hld
        rw [run_bytesToString w ad' _ c _ hld]
        have hfold : ∀ (ns : List Int) (s : ByteArray), ns.foldl (fun r n => r.push (UInt8.ofNat n.toNat)) s = ⟨s.data ++ (ns.map fun n => n.toNat.toUInt8).toArray⟩ := by
          intro ns
          induction ns with
          | nil => intro s; simp
          | cons n ns ih => intro s; rw [List.foldl_cons, ih]; simp [ByteArray.push]
        rw [hfold]
        have hbs' : bs = ((List.range rows.length).map fun i => (match vf i 0 with | .int _ n => n | _ => 0)).map fun n => n.toNat.toUInt8 := by
          apply List.ext_getElem?
          intro i
          by_cases hi : i < rows.length
          · obtain ⟨n, hn, hb, _⟩ := hv i hi
            rw [hb]; simp [hi, hn]
          · rw [List.getElem?_eq_none (by omega), List.getElem?_eq_none (by simp; omega)]
        rw [hbs']
        simp
    · simp at h
  · simp at h
end
end Kw
namespace Kw
set_option linter.unusedVariables false
set_option linter.unusedSimpArgs false
set_option linter.unusedSectionVars false
open Go
variable [Gl]
/-- one object changes, and nothing else -/
theorem obj_upd {fr : Fr} {g : G} {tmps : Array Value} {w w' : World} (S : Sim fr g tmps w) (h : H) (o : Obj) (x : GH)
    (hx : x ≠ .absent) (himp : (∀ i, h ≠ .imp i) ∨ x = g.rho h)
    (hL : ((∃ b, g.rho h = .box b) ∧ x = g.rho h) ∨ (x = g.rho h ∧ cur fr.ob h ≤ cur (put fr.ob h o) h ∧ ((∃ b c s, g.rho h = .mem b c s) ∨ g.rho h = .nil)) ∨ (((∃ b c s, g.rho h = .mem b c s) ∨ g.rho h = .nil) ∧ (∃ b c s, x = .mem b c s) ∧ cur fr.ob h < cur (put fr.ob h o) h))
    (hheap : ∀ b, b < w.heap.size → (g.rho h).blk ≠ some b → w'.heap[b]? = w.heap[b]?)
    (hnp : ∀ b, (g.rho h).blk = some b → ¬ g.prot b)
    (hsz : w.heap.size ≤ w'.heap.size)
    (hblk : ∀ b, x.blk = some b → (g.rho h).blk = some b ∨ (w.heap.size ≤ b ∧ b < w'.heap.size))
    (hos : w'.os = w.os) (htp : w'.tape = w.tape) (hout : w'.output = w.output)
    (ho : ∀ g', g' = g.setR h x → Later g g' (cur fr.ob) (cur (put fr.ob h o)) w w' → ObjR g' (cur (put fr.ob h o)) w' h o) :
    Sim (fr.setObj h o) (g.setR h x) tmps w' ∧ Fm g w (g.setR h x) w' ∧ Later g (g.setR h x) (cur fr.ob) (cur (put fr.ob h o)) w w' := by
  have L : Later g (g.setR h x) (cur fr.ob) (cur (put fr.ob h o)) w w' := by
    refine ⟨fun h' b e => ?_, fun h' b c s e => ?_, fun h' e => ?_, fun h' e => ?_, fun b hp => hp, fun b hp => hheap b (S.o.plt b hp) (fun e => hnp b e hp)⟩
    · by_cases eh : h' = h
      · subst eh
        rw [setR_self]
        rcases hL with ⟨_, hL⟩ | ⟨hL, _, ⟨_, _, _, e'⟩ | e'⟩ | ⟨⟨_, _, _, e'⟩ | e', _⟩
        · exact .inl (hL.trans e)
        all_goals (rw [e] at e'; cases e')
      · exact .inl ((setR_ne eh).trans e)
    · by_cases eh : h' = h
      · subst eh
        rw [setR_self]
        rcases hL with ⟨⟨_, e'⟩, hL⟩ | ⟨hL, hc, _⟩ | ⟨_, hm, hc⟩
        · rw [e] at e'; cases e'
        · exact .inr ⟨hc, .inl (hL.trans e)⟩
        · exact .inr ⟨by omega, .inr ⟨hc, hm⟩⟩
      · exact .inr ⟨by rw [cur_put_ne eh]; exact Int.le_refl _, .inl ((setR_ne eh).trans e)⟩
    · by_cases eh : h' = h
      · subst eh
        rw [setR_self]
        rcases hL with ⟨⟨_, e'⟩, hL⟩ | ⟨hL, hc, _⟩ | ⟨_, hm, hc⟩
        · rw [e] at e'; cases e'
        · exact .inr ⟨hc, .inl (hL.trans e)⟩
        · exact .inr ⟨by omega, .inr ⟨hc, hm⟩⟩
      · exact .inr ⟨by rw [cur_put_ne eh]; exact Int.le_refl _, .inl ((setR_ne eh).trans e)⟩
    · by_cases eh : h' = h
      · subst eh
        rcases hL with ⟨⟨_, e'⟩, _⟩ | ⟨_, _, ⟨_, _, _, e'⟩ | e'⟩ | ⟨⟨_, _, _, e'⟩ | e', _⟩ <;> (rw [e] at e'; cases e')
      · exact (setR_ne eh).trans e
  refine ⟨S.later L (S.o.upd h o (fun h' e => setR_ne e) (by rw [setR_self]; exact hx) L (fun h' b ne e => hheap b (S.o.lt h' b e) (fun e' => ne (S.o.inj h' h b e e'))) (fun _ _ _ _ hn => hn)
    (ho _ rfl L) (fun h' b ne e e' => ?_) (fun b e => ?_) hsz (fun b hp => Nat.lt_of_lt_of_le (S.o.plt b hp) hsz)), ?_, L⟩
  · rw [setR_self] at e
    rcases hblk b e with y | ⟨y, _⟩
    · exact ne (S.o.inj h' h b e' y)
    · have := S.o.lt h' b e'; omega
  · rw [setR_self] at e
    rcases hblk b e with y | ⟨_, y⟩
    · exact Nat.lt_of_lt_of_le (S.o.lt h b y) hsz
    · exact y
  · refine ⟨hos, htp, hout, hsz, fun b hb hn => hheap b hb (hn h), fun h' b e => ?_, fun _ hp => hp, fun _ hp => .inl hp, fun i => ?_⟩
    by_cases eh : h' = h
    · subst eh; rw [setR_self] at e
      rcases hblk b e with y | ⟨y, _⟩
      · exact .inr ⟨_, y⟩
      · exact .inl y
    · rw [setR_ne eh] at e; exact .inr ⟨h', e⟩
    · by_cases eh : (H.imp i) = h
      · rw [eh, setR_self]
        rcases himp with e | e
        · exact absurd eh.symm (e i)
        · exact .inl e
      · exact .inl (setR_ne eh)
theorem setR_same {g : G} {h : H} {x : GH} (e : x = g.rho h) : g.setR h x = g := by
  subst e
  unfold G.setR
  congr 1
  funext h'
  by_cases e : h' = h
  · subst e; simp
  · simp [e]
section
variable {P : Program} {R : Type} {r : R} {k : Fr → Option R} {fr : Fr} {g : G} {a : Act} {w : World} {o : Oper} {Q : Exit → Act → World → Prop}
theorem sv_oneC {p : Nat → Prop} {v : Value} {m : MV} (h : SV w p v m) : v.oneCell' = true ∧ v.cells = #[v] := by cases h <;> exact ⟨rfl, rfl⟩
/-- what a value's cells are -/
theorem rv_cellsOf {cu : H → Int} {v : Value} {m : MV} (hx : RV g cu w v m) (hone : (cellsOf m).all MV.one = true) : Rl (RV g cu w) v.cells.toList (cellsOf m) ∧ ∀ u ∈ v.cells.toList, u.oneCell' = true := by
  have hm : m.one = true ∨ ∃ cs, m = .agg cs := by
    unfold cellsOf at hone
    split at hone
    · exact .inr ⟨_, rfl⟩
    · exact .inl (by simpa using hone)
  obtain ⟨hl, hr⟩ := rv_cells hx hm
  have hrl : Rl (RV g cu w) v.cells.toList (cellsOf m) := rl_of _ _ (by simpa using hl) (fun j v' m' h1 h2 => hr j v' m' (by simpa using h1) h2)
  refine ⟨hrl, fun u hu => ?_⟩
  obtain ⟨j, hj, e⟩ := List.mem_iff_getElem.1 hu
  have hj' : j < (cellsOf m).length := by rw [← hrl.len]; exact hj
  have h1 : v.cells.toList[j]? = some u := by rw [List.getElem?_eq_getElem hj, e]
  have h2 : (cellsOf m)[j]? = some ((cellsOf m)[j]'hj') := List.getElem?_eq_getElem hj'
  exact ((hrl.at j u _ h1 h2).one (List.all_eq_true.1 hone _ (List.getElem_mem hj'))).1
theorem run_storeOp {t : TypeId} {x y : Operand} {b off : Nat} {v : Value} {arr : Array Value} {ty : TypeId} (ho : o.op = .store t x y) (hk : okT P t = true) {ρ : Operand → Value} (hx : ρ x = .pointer (some ⟨b, off, none⟩)) (hy : ρ y = v) (hs : v.cells.size = tsize P t)
    (hh : w.heap[b]? = some (.cells arr ty (0, 0))) (hl : off + v.cells.size ≤ arr.size) (h1 : ∀ u ∈ v.cells.toList, u.oneCell' = true) :
    (execOp ρ o).run P w = .ok .skip (w.setRow b (setV arr.toList off v.cells.toList).toArray) := by
  obtain ⟨⟨d, hu⟩, _, _⟩ := okT_iff hk
  obtain ⟨i, hi⟩ := und_info hu
  have hst := run_storeCells_at (P := P) b off ty v.cells.toList 0 arr w hh (by simpa using hl) h1
  rw [setV_eq _ _ _ (by simpa using hl)]
  simp only [Nat.add_zero] at hst
  unfold execOp; rw [ho]
  simp [hx, hy, Instr.storeAt, Instr.sureAddr, storeVar, run_size hi, hs, hst]
theorem obj_ptr {hd : H} {off : Nat} {cs : List MV} (S : Sim fr g a.tmps w) (ec : fr.obj hd = .cells cs) {v : Value} (hv : RV g (cur fr.ob) w v (.ptr hd off)) :
    ∃ b arr ty, v = .pointer (some ⟨b, off, none⟩) ∧ g.rho hd = .box b ∧ w.heap[b]? = some (.cells arr ty (0, 0)) ∧ ¬ g.prot b ∧ Rl (RV g (cur fr.ob) w) arr.toList cs := by
  obtain ⟨b, arr, ty, e, hh, hn, hs, hr⟩ := obj_of S.o ec (by simp)
  exact ⟨b, arr, ty, rv_ptr hv e, e, hh, hn, rl_of _ _ (by simpa using hs) (fun j v m h1 h2 => hr j v m (by simpa using h1) h2)⟩
end
end Kw
namespace Kw
set_option linter.unusedVariables false
set_option linter.unusedSimpArgs false
set_option linter.unusedSectionVars false
open Go
variable [Gl]
section
variable {P : Program} {R : Type} {r : R} {k : Fr → Option R} {fr : Fr} {g : G} {a : Act} {w : World} {o : Oper} {Q : Exit → Act → World → Prop}
theorem setV_len : ∀ (vs r : List Value) (c : Nat), (setV r c vs).length = r.length
  | [], _, _ => rfl
  | v :: vs, r, c => by rw [setV, setV_len vs]; simp
theorem setV_get : ∀ (vs r : List Value) (c j : Nat), (j < c ∨ c + vs.length ≤ j) → (setV r c vs)[j]? = r[j]?
  | [], _, _, _, _ => rfl
  | v :: vs, r, c, j, h => by
    rw [setV, setV_get vs _ _ j (by simp at h; omega), List.getElem?_set]
    have : ¬ c = j := by simp at h; omega
    simp [this]
theorem setV_mid : ∀ (vs r : List Value) (c i : Nat) (v : Value), vs[i]? = some v → c + vs.length ≤ r.length → (setV r c vs)[c + i]? = some v
  | [], _, _, _, _, h, _ => by simp at h
  | u :: vs, r, c, i, v, h, hl => by
    simp only [List.length_cons] at hl
    cases i with
    | zero =>
      simp at h; subst h
      rw [setV, setV_get vs _ _ _ (by omega), List.getElem?_set]
      simp; omega
    | succ i =>
      rw [setV, show c + (i + 1) = c + 1 + i by omega]
      exact setV_mid vs _ _ i v (by simpa using h) (by simp; omega)
theorem setC_len : ∀ (ms : List MV) (r : Row) (c : Nat), (setC r c ms).length = r.length
  | [], _, _ => rfl
  | m :: ms, r, c => by rw [setC, setC_len ms]; simp
theorem setC_get : ∀ (ms : List MV) (r : Row) (c j : Nat), (j < c ∨ c + ms.length ≤ j) → (setC r c ms)[j]? = r[j]?
  | [], _, _, _, _ => rfl
  | m :: ms, r, c, j, h => by
    rw [setC, setC_get ms _ _ j (by simp at h; omega), List.getElem?_set]
    have : ¬ c = j := by simp at h; omega
    simp [this]
theorem setC_mid : ∀ (ms : List MV) (r : Row) (c i : Nat) (m : MV), (setC r c ms)[c + i]? = some m → i < ms.length → ms[i]? = some m
  | [], _, _, _, _, _, h => by simp at h
  | u :: ms, r, c, i, m, h, hl => by
    cases i with
    | zero =>
      rw [setC, setC_get ms _ _ _ (by omega), List.getElem?_set] at h
      simp at h; simp [h.2]
    | succ i =>
      rw [setC, show c + (i + 1) = c + 1 + i by omega] at h
      simpa using setC_mid ms _ _ i m h (by simpa using hl)
theorem s_store {E : Env} (hP : E.P = P) {t : TypeId} {x y : Operand} (ho : o.op = .store t x y) (h : evStore E t (opnd fr x) (opnd fr y) fr (fun fr => k (fr.finish o.dst .undef)) = some r) (S : Sim fr g a.tmps w) :
    o.upon P a (Good r k g w a) Q ((execOp a.eval o).run P w) := by
  subst hP
  have hx := opnd_rv S x
  have hy := opnd_rv S y
  unfold evStore at h
  split at h
  case isFalse => simp at h
  rename_i hc
  simp only [Bool.and_eq_true, beq_iff_eq] at hc
  obtain ⟨hk, hl, hone⟩ := hc
  obtain ⟨hrl, h1⟩ := rv_cellsOf hy hone
  have hsize : (a.eval y).cells.size = tsize E.P t := by have := hrl.len; simp at this; omega
  split at h
  · rename_i hd off ex
    rw [ex] at hx
    split at h
    · rename_i cs ec
      split at h
      · rename_i hle
        obtain ⟨b, arr, ty, ev, e, hh, hn, hr⟩ := obj_ptr S ec hx
        have hal : arr.size = cs.length := by have := hr.len; simpa using this
        have hcur : cur (put fr.ob hd (.cells (setC cs off (cellsOf (opnd fr y))))) hd = cur fr.ob hd := by
          unfold cur; rw [look_put]; unfold Fr.obj at ec; rw [ec]
        obtain ⟨S', F, L⟩ := obj_upd (w' := w.setRow b (setV arr.toList off (a.eval y).cells.toList).toArray) S hd (.cells (setC cs off (cellsOf (opnd fr y)))) (g.rho hd) (by rw [e]; simp) (.inr rfl) (.inl ⟨⟨b, e⟩, rfl⟩)
          (fun b' hb hne => setRow_other _ _ _ _ (fun eb => hne (by rw [e, eb]; rfl))) (fun b' e' => by rw [e] at e'; cases e'; exact hn) (by simp) (fun b' e' => .inl e') rfl rfl rfl
          (fun g' eg L => by
            rw [setR_same rfl] at eg
            subst eg
            refine ⟨b, _, ty, e, setRow_heap _ _ _ _ _ _ hh, hn, by simp [setV_len, setC_len, hal], fun j v m h1 h2 => ?_⟩
            exact ((rl_setC hrl off hr).at j v m (by simpa using h1) h2).mono L)
        rw [setR_same rfl] at S' F
        exact up_skip (m := .undef) (run_storeOp ho hk ev rfl hsize hh (by omega) h1) h S' F
      · simp at h
    · simp at h
  · rename_i hd n i c ex
    rw [ex] at hx
    obtain ⟨ms, fr1, g1, h, Fz, svs⟩ := freezeL_ok h S hrl
    have S1 := Fz.sim
    have hx1 := hx.mono Fz.later
    split at h
    · rename_i rows er
      rcases br_some h with ⟨en, h⟩ | ⟨_, h⟩
      case inr => simp at h
      obtain ⟨row, hrow, h⟩ := bnd_some h
      rcases br_some h with ⟨el, h⟩ | ⟨_, h⟩
      case inr => simp at h
      have hcl : ((c + ms.length : Nat) : Int) ≤ (row.length : Int) := iLe_true el
      unfold setRow at h
      have hn : n = cur fr1.ob hd := by unfold cur; unfold Fr.obj at er; rw [er]; exact iEq_true en
      unfold rowAt at hrow
      split at hrow
      case isFalse => simp at hrow
      rename_i hi0
      rcases obj_of S1.o er (by simp) with ⟨_, e⟩ | ⟨b, cap, sz, arr, ty, e, hh, hnp, ⟨hs, hz⟩, hle, hrr⟩
      · subst e; simp at hrow
      have ev := rv_ptrE hx1 e hn
      obtain ⟨hlen, hcells⟩ := hrr i.toNat row hrow
      have hi : i.toNat < rows.length := (List.getElem?_eq_some_iff.1 hrow).1
      have hml : ms.length = (a.eval y).cells.toList.length := svs.len.symm
      have hbound : i.toNat * sz + c + (a.eval y).cells.size ≤ arr.size := by
        have : (i.toNat + 1) * sz ≤ cap * sz := Nat.mul_le_mul_right _ (by omega)
        rw [Nat.add_mul] at this
        simp at hml
        omega
      have hcur : cur (put fr1.ob hd (.rows (setR rows i (setC row c ms)))) hd = cur fr1.ob hd := by
        unfold cur; rw [look_put]; unfold Fr.obj at er; rw [er]; unfold nrows Kw.setR; simp
      obtain ⟨S', F, L⟩ := obj_upd (w' := w.setRow b (setV arr.toList (i.toNat * sz + c) (a.eval y).cells.toList).toArray) S1 hd (.rows (setR rows i (setC row c ms))) (g1.rho hd) (by rw [e]; simp) (.inr rfl) (.inr (.inl ⟨rfl, by rw [hcur]; exact Int.le_refl _, .inl ⟨b, cap, sz, e⟩⟩))
          (fun b' hb hne => setRow_other _ _ _ _ (fun eb => hne (by rw [e, eb]; rfl))) (fun b' e' => by rw [e] at e'; cases e'; exact hnp) (by simp) (fun b' e' => .inl e') rfl rfl rfl
          (fun g' eg L => by
            rw [setR_same rfl] at eg
            subst eg
            refine .inr ⟨b, cap, sz, _, ty, e, setRow_heap _ _ _ _ _ _ hh, hnp, ⟨by simp [setV_len, hs], fun e' => ?_⟩, ?_, fun q row' hq => ?_⟩
            · have : rows = [] := by
                unfold Kw.setR at e'; simpa using e'
              exact hz this
            · unfold Kw.setR; simp; exact hle
            · unfold Kw.setR at hq
              rw [List.getElem?_set] at hq
              by_cases eq : i.toNat = q
              · subst eq
                simp [hi] at hq
                subst hq
                refine ⟨by rw [setC_len]; exact hlen, fun j m hj => ?_⟩
                by_cases hjc : j < c ∨ c + ms.length ≤ j
                · rw [setC_get _ _ _ _ hjc] at hj
                  obtain ⟨v, hv, hsv⟩ := hcells j m hj
                  refine ⟨v, ?_, hsv.up L⟩
                  rw [List.getElem?_toArray, setV_get _ _ _ _ (by simp at hml ⊢; omega)]
                  simpa using hv
                · have : j = c + (j - c) := by omega
                  rw [this] at hj
                  have hm := setC_mid ms row c (j - c) m hj (by omega)
                  obtain ⟨v, hv, hsv⟩ := svs.get hm
                  refine ⟨v, ?_, hsv.up L⟩
                  rw [List.getElem?_toArray, show i.toNat * sz + j = i.toNat * sz + c + (j - c) by omega]
                  exact setV_mid _ _ _ _ _ hv (by simpa using hbound)
              · simp [eq] at hq
                obtain ⟨hl', hc'⟩ := hrr q row' hq
                refine ⟨hl', fun j m hj => ?_⟩
                obtain ⟨v, hv, hsv⟩ := hc' j m hj
                refine ⟨v, ?_, hsv.up L⟩
                have hjs : j < sz := by rw [← hl']; exact (List.getElem?_eq_some_iff.1 hj).1
                rw [List.getElem?_toArray, setV_get _ _ _ _ ?_]
                · simpa using hv
                · simp at hml ⊢
                  rcases Nat.lt_or_gt_of_ne eq with hlt | hgt
                  · have : (i.toNat + 1) * sz ≤ q * sz := Nat.mul_le_mul_right _ hlt
                    rw [Nat.add_mul] at this
                    omega
                  · have : (q + 1) * sz ≤ i.toNat * sz := Nat.mul_le_mul_right _ hgt
                    rw [Nat.add_mul] at this
                    omega)
      rw [setR_same rfl] at S' F
      exact up_skip (m := .undef) (run_storeOp ho hk ev rfl hsize hh hbound h1) h S' (Fz.fm.trans F)
    · simp at h
  · simp at h
end
end Kw
