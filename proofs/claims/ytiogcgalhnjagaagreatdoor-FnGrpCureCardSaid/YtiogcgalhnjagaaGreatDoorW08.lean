import Derived.Test.YtiogcgalhnjagaaGreatDoorW07
import Derived.WalkKit
import Derived.Tactics
import Derived.Lib.Walk
import Derived.KernelRfl
import Derived.Test.YtiogcgalhnjagaaGreatDoorProg
namespace Kw
open Go Go.RowKit Go.Proofs Go.Shelf
set_option maxRecDepth 100000
theorem owns_p {w : World} {B E sz : Nat} {v : Value} {n : Nat} {xs : List Value} (h : w.ownsRow B E sz v n xs) (hv : v ≠ .slice none 0 0) :
    ∃ g cap cur, v = .slice (some ⟨g, 0, none⟩) n cap ∧ n ≤ cap ∧ B ≤ g ∧ w.heap[g]? = some (.cells cur E (0, 0)) ∧ n * sz ≤ cur.size ∧ cur.toList.take (n * sz) = xs := by
  obtain ⟨_, ⟨e, _⟩ | ⟨g, cap, cur, e, hb, hh, hle, _, hs, ht⟩⟩ := h
  · exact absurd e hv
  · exact ⟨g, cap, cur, e, hle, hb, hh, by rw [hs]; exact Nat.mul_le_mul_right _ hle, ht⟩
/-! impl.clone[impl.KnwBox] -/
def clren_45 : Go.Shelf.Ren := ⟨fun | 41 => 82 | n => n, fun | 22 => 44 | 23 => 68 | 4 => 4 | n => n, fun | n => n⟩
theorem clL_45 : Go.Proofs.SlLaysE0.n41 Tryz.prog clren_45 := {
  mixed := by kernel_rfl
  f41 := ⟨Tryz.f82.name, by decide, Tryz.func82.trans (congrArg some (by kernel_rfl))⟩
  t4 := Tryz.underlying4
  a4 := Tryz.isAgg4
  z4 := Tryz.sizeOf4
  v4 := Tryz.zeroValue4
  t22 := Tryz.underlying44
  a22 := Tryz.isAgg44
  z22 := Tryz.sizeOf44
  v22 := Tryz.zeroValue44 }
theorem clip_81 (a : Addr) (n c : Nat) (hn : n ≤ c) (w : World) : Calls Tryz.prog 81 #[.slice (some a) n c] w fun e w' => e = .returned (.slice (some a) n n) ∧ w' = w := by
  go_enter Tryz.func81, Tryz.ntmps81
  go_wp2
  go_ret
  exact ⟨rfl, rfl⟩
theorem clipN_81 (c : Nat) (w : World) : Calls Tryz.prog 81 #[.slice none 0 c] w fun e w' => e = .returned (.slice none 0 0) ∧ w' = w := by
  go_enter Tryz.func81, Tryz.ntmps81
  go_wp2
  go_ret
  exact ⟨rfl, rfl⟩
theorem cloneS_45 (a : Addr) (n c : Nat) (news : List Value) (w : World) (k : Calls Tryz.prog 82 #[.slice (some a) n c] w fun e w' => ∃ v', e = .returned v' ∧ w'.ownsRow w.heap.size 68 2 v' n news ∧ v' ≠ .slice none 0 0 ∧ Below w.heap.size w w') :
    Calls Tryz.prog 45 #[.slice (some a) n c] w fun e w' => ∃ g cur, e = .returned (.slice (some ⟨g, 0, none⟩) n n) ∧ w.heap.size ≤ g ∧ w'.heap[g]? = some (.cells cur 68 (0, 0)) ∧ n * 2 ≤ cur.size ∧ cur.toList.take (n * 2) = news ∧ Below w.heap.size w w' := by
  go_enter Tryz.func45, Tryz.ntmps45
  go_wp2_with (go_at_call 82; refine k.mono ?_; rintro e w' ⟨v', rfl, hown, hnn, hB⟩)
  obtain ⟨g, cap, cur, rfl, hle, hg, hh, hsz, htk⟩ := owns_p hown hnn
  clear hown hnn
  have k2 := clip_81 ⟨g, 0, none⟩ n cap hle w'
  have A : Aside (w'.heap[g]? = some (.cells cur 68 (0, 0)) ∧ cur.toList.take (n * 2) = news ∧ n * 2 ≤ cur.size) := ⟨hh, htk, hsz⟩
  clear hh htk hsz
  go_wp2_with (go_at_call 81; refine k2.mono ?_; rintro e w'' ⟨rfl, rfl⟩)
  go_ret
  exact ⟨g, cur, rfl, hg, A.out.1, A.out.2.2, A.out.2.1, hB⟩
theorem cloneN_45 (n c : Nat) (w : World) : Calls Tryz.prog 45 #[.slice none n c] w fun e w' => e = .returned (.slice none 0 0) ∧ w' = w := by
  have k := AnyE.slices_Clone_nil clL_45 n c w
  have k2 := clipN_81 0 w
  go_enter Tryz.func45, Tryz.ntmps45
  go_wp2_with (first | (go_at_call 82; refine k.mono ?_; rintro e w' ⟨rfl, rfl⟩) | (go_at_call 81; refine k2.mono ?_; rintro e w'' ⟨rfl, rfl⟩))
  go_ret
  exact ⟨rfl, rfl⟩
theorem clone_45 : RunOk Tryz.prog fun f' args imps => if f' = 45 then (cloneQ 2 1024 args).map fun m => (m, imps) else none := by
  have hk : okT Tryz.prog 68 = true := by kernel_rfl
  have ht : tsize Tryz.prog 68 = 2 := by kernel_rfl
  have hb : Nat.ble (tbytes Tryz.prog 68) 1024 = true := by kernel_rfl
  obtain ⟨i0, z, hi, hz, _, hzs⟩ := zero_cells hk
  have h1 : i0.size = 2 := by rw [← ht]; unfold tsize; rw [hi]
  have h2 : i0.bytes ≤ 1024 := by
    have := Nat.le_of_ble_eq_true hb
    unfold tbytes at this; rw [hi] at this; exact this
  refine @clone_ok _ _ 2 1024 68 (by decide) (fun v w => run_enter (c := (match Tryz.f45.body with | some c => c | none => .skip)) Tryz.func45 (by kernel_rfl) (by kernel_rfl) _ _) cloneN_45 fun a n c news w hl hn hc ho => ?_
  have hnb : n * i0.bytes ≤ 140737488355328 := Nat.le_trans (Nat.mul_le_mul_left n h2) (by omega)
  by_cases h0 : 0 < n
  · obtain ⟨hs, hc⟩ := hc h0
    obtain ⟨b, off, spot⟩ := a
    simp only at hs
    subst hs
    exact cloneS_45 _ n c news w (AnyE.slices_Clone clL_45 i0 z 2 i0.bytes hi hz h1 rfl (by rw [hzs, ht]) (by decide) Tryz.sizeOf68 b off n c news w hl (by unfold maxLen; omega) hnb hc ho)
  · obtain rfl : n = 0 := by omega
    obtain rfl : news = [] := List.length_eq_zero_iff.1 (by omega)
    exact cloneS_45 _ 0 c [] w (cl_zero clL_45 i0 z 2 i0.bytes hi hz h1 rfl (by rw [hzs, ht]) (by decide) Tryz.sizeOf68 a c w)
/-! impl.clone[string] -/
def clren_46 : Go.Shelf.Ren := ⟨fun | 41 => 84 | n => n, fun | 22 => 27 | 23 => 9 | 4 => 4 | n => n, fun | n => n⟩
theorem clL_46 : Go.Proofs.SlLaysE0.n41 Tryz.prog clren_46 := {
  mixed := by kernel_rfl
  f41 := ⟨Tryz.f84.name, by decide, Tryz.func84.trans (congrArg some (by kernel_rfl))⟩
  t4 := Tryz.underlying4
  a4 := Tryz.isAgg4
  z4 := Tryz.sizeOf4
  v4 := Tryz.zeroValue4
  t22 := Tryz.underlying27
  a22 := Tryz.isAgg27
  z22 := Tryz.sizeOf27
  v22 := Tryz.zeroValue27 }
theorem clip_83 (a : Addr) (n c : Nat) (hn : n ≤ c) (w : World) : Calls Tryz.prog 83 #[.slice (some a) n c] w fun e w' => e = .returned (.slice (some a) n n) ∧ w' = w := by
  go_enter Tryz.func83, Tryz.ntmps83
  go_wp2
  go_ret
  exact ⟨rfl, rfl⟩
theorem clipN_83 (c : Nat) (w : World) : Calls Tryz.prog 83 #[.slice none 0 c] w fun e w' => e = .returned (.slice none 0 0) ∧ w' = w := by
  go_enter Tryz.func83, Tryz.ntmps83
  go_wp2
  go_ret
  exact ⟨rfl, rfl⟩
theorem cloneS_46 (a : Addr) (n c : Nat) (news : List Value) (w : World) (k : Calls Tryz.prog 84 #[.slice (some a) n c] w fun e w' => ∃ v', e = .returned v' ∧ w'.ownsRow w.heap.size 9 1 v' n news ∧ v' ≠ .slice none 0 0 ∧ Below w.heap.size w w') :
    Calls Tryz.prog 46 #[.slice (some a) n c] w fun e w' => ∃ g cur, e = .returned (.slice (some ⟨g, 0, none⟩) n n) ∧ w.heap.size ≤ g ∧ w'.heap[g]? = some (.cells cur 9 (0, 0)) ∧ n * 1 ≤ cur.size ∧ cur.toList.take (n * 1) = news ∧ Below w.heap.size w w' := by
  go_enter Tryz.func46, Tryz.ntmps46
  go_wp2_with (go_at_call 84; refine k.mono ?_; rintro e w' ⟨v', rfl, hown, hnn, hB⟩)
  obtain ⟨g, cap, cur, rfl, hle, hg, hh, hsz, htk⟩ := owns_p hown hnn
  clear hown hnn
  have k2 := clip_83 ⟨g, 0, none⟩ n cap hle w'
  have A : Aside (w'.heap[g]? = some (.cells cur 9 (0, 0)) ∧ cur.toList.take (n * 1) = news ∧ n * 1 ≤ cur.size) := ⟨hh, htk, hsz⟩
  clear hh htk hsz
  go_wp2_with (go_at_call 83; refine k2.mono ?_; rintro e w'' ⟨rfl, rfl⟩)
  go_ret
  exact ⟨g, cur, rfl, hg, A.out.1, A.out.2.2, A.out.2.1, hB⟩
theorem cloneN_46 (n c : Nat) (w : World) : Calls Tryz.prog 46 #[.slice none n c] w fun e w' => e = .returned (.slice none 0 0) ∧ w' = w := by
  have k := AnyE.slices_Clone_nil clL_46 n c w
  have k2 := clipN_83 0 w
  go_enter Tryz.func46, Tryz.ntmps46
  go_wp2_with (first | (go_at_call 84; refine k.mono ?_; rintro e w' ⟨rfl, rfl⟩) | (go_at_call 83; refine k2.mono ?_; rintro e w'' ⟨rfl, rfl⟩))
  go_ret
  exact ⟨rfl, rfl⟩
theorem clone_46 : RunOk Tryz.prog fun f' args imps => if f' = 46 then (cloneQ 1 1024 args).map fun m => (m, imps) else none := by
  have hk : okT Tryz.prog 9 = true := by kernel_rfl
  have ht : tsize Tryz.prog 9 = 1 := by kernel_rfl
  have hb : Nat.ble (tbytes Tryz.prog 9) 1024 = true := by kernel_rfl
  obtain ⟨i0, z, hi, hz, _, hzs⟩ := zero_cells hk
  have h1 : i0.size = 1 := by rw [← ht]; unfold tsize; rw [hi]
  have h2 : i0.bytes ≤ 1024 := by
    have := Nat.le_of_ble_eq_true hb
    unfold tbytes at this; rw [hi] at this; exact this
  refine @clone_ok _ _ 1 1024 9 (by decide) (fun v w => run_enter (c := (match Tryz.f46.body with | some c => c | none => .skip)) Tryz.func46 (by kernel_rfl) (by kernel_rfl) _ _) cloneN_46 fun a n c news w hl hn hc ho => ?_
  have hnb : n * i0.bytes ≤ 140737488355328 := Nat.le_trans (Nat.mul_le_mul_left n h2) (by omega)
  by_cases h0 : 0 < n
  · obtain ⟨hs, hc⟩ := hc h0
    obtain ⟨b, off, spot⟩ := a
    simp only at hs
    subst hs
    exact cloneS_46 _ n c news w (AnyE.slices_Clone clL_46 i0 z 1 i0.bytes hi hz h1 rfl (by rw [hzs, ht]) (by decide) Tryz.sizeOf9 b off n c news w hl (by unfold maxLen; omega) hnb hc ho)
  · obtain rfl : n = 0 := by omega
    obtain rfl : news = [] := List.length_eq_zero_iff.1 (by omega)
    exact cloneS_46 _ 0 c [] w (cl_zero clL_46 i0 z 1 i0.bytes hi hz h1 rfl (by rw [hzs, ht]) (by decide) Tryz.sizeOf9 a c w)
/-! impl.clone[impl.MemMember] -/
def clren_85 : Go.Shelf.Ren := ⟨fun | 41 => 131 | n => n, fun | 22 => 23 | 23 => 43 | 4 => 4 | n => n, fun | n => n⟩
theorem clL_85 : Go.Proofs.SlLaysE0.n41 Tryz.prog clren_85 := {
  mixed := by kernel_rfl
  f41 := ⟨Tryz.f131.name, by decide, Tryz.func131.trans (congrArg some (by kernel_rfl))⟩
  t4 := Tryz.underlying4
  a4 := Tryz.isAgg4
  z4 := Tryz.sizeOf4
  v4 := Tryz.zeroValue4
  t22 := Tryz.underlying23
  a22 := Tryz.isAgg23
  z22 := Tryz.sizeOf23
  v22 := Tryz.zeroValue23 }
theorem clip_130 (a : Addr) (n c : Nat) (hn : n ≤ c) (w : World) : Calls Tryz.prog 130 #[.slice (some a) n c] w fun e w' => e = .returned (.slice (some a) n n) ∧ w' = w := by
  go_enter Tryz.func130, Tryz.ntmps130
  go_wp2
  go_ret
  exact ⟨rfl, rfl⟩
theorem clipN_130 (c : Nat) (w : World) : Calls Tryz.prog 130 #[.slice none 0 c] w fun e w' => e = .returned (.slice none 0 0) ∧ w' = w := by
  go_enter Tryz.func130, Tryz.ntmps130
  go_wp2
  go_ret
  exact ⟨rfl, rfl⟩
theorem cloneS_85 (a : Addr) (n c : Nat) (news : List Value) (w : World) (k : Calls Tryz.prog 131 #[.slice (some a) n c] w fun e w' => ∃ v', e = .returned v' ∧ w'.ownsRow w.heap.size 43 7 v' n news ∧ v' ≠ .slice none 0 0 ∧ Below w.heap.size w w') :
    Calls Tryz.prog 85 #[.slice (some a) n c] w fun e w' => ∃ g cur, e = .returned (.slice (some ⟨g, 0, none⟩) n n) ∧ w.heap.size ≤ g ∧ w'.heap[g]? = some (.cells cur 43 (0, 0)) ∧ n * 7 ≤ cur.size ∧ cur.toList.take (n * 7) = news ∧ Below w.heap.size w w' := by
  go_enter Tryz.func85, Tryz.ntmps85
  go_wp2_with (go_at_call 131; refine k.mono ?_; rintro e w' ⟨v', rfl, hown, hnn, hB⟩)
  obtain ⟨g, cap, cur, rfl, hle, hg, hh, hsz, htk⟩ := owns_p hown hnn
  clear hown hnn
  have k2 := clip_130 ⟨g, 0, none⟩ n cap hle w'
  have A : Aside (w'.heap[g]? = some (.cells cur 43 (0, 0)) ∧ cur.toList.take (n * 7) = news ∧ n * 7 ≤ cur.size) := ⟨hh, htk, hsz⟩
  clear hh htk hsz
  go_wp2_with (go_at_call 130; refine k2.mono ?_; rintro e w'' ⟨rfl, rfl⟩)
  go_ret
  exact ⟨g, cur, rfl, hg, A.out.1, A.out.2.2, A.out.2.1, hB⟩
theorem cloneN_85 (n c : Nat) (w : World) : Calls Tryz.prog 85 #[.slice none n c] w fun e w' => e = .returned (.slice none 0 0) ∧ w' = w := by
  have k := AnyE.slices_Clone_nil clL_85 n c w
  have k2 := clipN_130 0 w
  go_enter Tryz.func85, Tryz.ntmps85
  go_wp2_with (first | (go_at_call 131; refine k.mono ?_; rintro e w' ⟨rfl, rfl⟩) | (go_at_call 130; refine k2.mono ?_; rintro e w'' ⟨rfl, rfl⟩))
  go_ret
  exact ⟨rfl, rfl⟩
theorem clone_85 : RunOk Tryz.prog fun f' args imps => if f' = 85 then (cloneQ 7 1024 args).map fun m => (m, imps) else none := by
  have hk : okT Tryz.prog 43 = true := by kernel_rfl
  have ht : tsize Tryz.prog 43 = 7 := by kernel_rfl
  have hb : Nat.ble (tbytes Tryz.prog 43) 1024 = true := by kernel_rfl
  obtain ⟨i0, z, hi, hz, _, hzs⟩ := zero_cells hk
  have h1 : i0.size = 7 := by rw [← ht]; unfold tsize; rw [hi]
  have h2 : i0.bytes ≤ 1024 := by
    have := Nat.le_of_ble_eq_true hb
    unfold tbytes at this; rw [hi] at this; exact this
  refine @clone_ok _ _ 7 1024 43 (by decide) (fun v w => run_enter (c := (match Tryz.f85.body with | some c => c | none => .skip)) Tryz.func85 (by kernel_rfl) (by kernel_rfl) _ _) cloneN_85 fun a n c news w hl hn hc ho => ?_
  have hnb : n * i0.bytes ≤ 140737488355328 := Nat.le_trans (Nat.mul_le_mul_left n h2) (by omega)
  by_cases h0 : 0 < n
  · obtain ⟨hs, hc⟩ := hc h0
    obtain ⟨b, off, spot⟩ := a
    simp only at hs
    subst hs
    exact cloneS_85 _ n c news w (AnyE.slices_Clone clL_85 i0 z 7 i0.bytes hi hz h1 rfl (by rw [hzs, ht]) (by decide) Tryz.sizeOf43 b off n c news w hl (by unfold maxLen; omega) hnb hc ho)
  · obtain rfl : n = 0 := by omega
    obtain rfl : news = [] := List.length_eq_zero_iff.1 (by omega)
    exact cloneS_85 _ 0 c [] w (cl_zero clL_85 i0 z 7 i0.bytes hi hz h1 rfl (by rw [hzs, ht]) (by decide) Tryz.sizeOf43 a c w)
/-! impl.clone[impl.GrpWait] -/
def clren_86 : Go.Shelf.Ren := ⟨fun | 41 => 133 | n => n, fun | 22 => 24 | 23 => 76 | 4 => 4 | n => n, fun | n => n⟩
theorem clL_86 : Go.Proofs.SlLaysE0.n41 Tryz.prog clren_86 := {
  mixed := by kernel_rfl
  f41 := ⟨Tryz.f133.name, by decide, Tryz.func133.trans (congrArg some (by kernel_rfl))⟩
  t4 := Tryz.underlying4
  a4 := Tryz.isAgg4
  z4 := Tryz.sizeOf4
  v4 := Tryz.zeroValue4
  t22 := Tryz.underlying24
  a22 := Tryz.isAgg24
  z22 := Tryz.sizeOf24
  v22 := Tryz.zeroValue24 }
theorem clip_132 (a : Addr) (n c : Nat) (hn : n ≤ c) (w : World) : Calls Tryz.prog 132 #[.slice (some a) n c] w fun e w' => e = .returned (.slice (some a) n n) ∧ w' = w := by
  go_enter Tryz.func132, Tryz.ntmps132
  go_wp2
  go_ret
  exact ⟨rfl, rfl⟩
theorem clipN_132 (c : Nat) (w : World) : Calls Tryz.prog 132 #[.slice none 0 c] w fun e w' => e = .returned (.slice none 0 0) ∧ w' = w := by
  go_enter Tryz.func132, Tryz.ntmps132
  go_wp2
  go_ret
  exact ⟨rfl, rfl⟩
theorem cloneS_86 (a : Addr) (n c : Nat) (news : List Value) (w : World) (k : Calls Tryz.prog 133 #[.slice (some a) n c] w fun e w' => ∃ v', e = .returned v' ∧ w'.ownsRow w.heap.size 76 4 v' n news ∧ v' ≠ .slice none 0 0 ∧ Below w.heap.size w w') :
    Calls Tryz.prog 86 #[.slice (some a) n c] w fun e w' => ∃ g cur, e = .returned (.slice (some ⟨g, 0, none⟩) n n) ∧ w.heap.size ≤ g ∧ w'.heap[g]? = some (.cells cur 76 (0, 0)) ∧ n * 4 ≤ cur.size ∧ cur.toList.take (n * 4) = news ∧ Below w.heap.size w w' := by
  go_enter Tryz.func86, Tryz.ntmps86
  go_wp2_with (go_at_call 133; refine k.mono ?_; rintro e w' ⟨v', rfl, hown, hnn, hB⟩)
  obtain ⟨g, cap, cur, rfl, hle, hg, hh, hsz, htk⟩ := owns_p hown hnn
  clear hown hnn
  have k2 := clip_132 ⟨g, 0, none⟩ n cap hle w'
  have A : Aside (w'.heap[g]? = some (.cells cur 76 (0, 0)) ∧ cur.toList.take (n * 4) = news ∧ n * 4 ≤ cur.size) := ⟨hh, htk, hsz⟩
  clear hh htk hsz
  go_wp2_with (go_at_call 132; refine k2.mono ?_; rintro e w'' ⟨rfl, rfl⟩)
  go_ret
  exact ⟨g, cur, rfl, hg, A.out.1, A.out.2.2, A.out.2.1, hB⟩
theorem cloneN_86 (n c : Nat) (w : World) : Calls Tryz.prog 86 #[.slice none n c] w fun e w' => e = .returned (.slice none 0 0) ∧ w' = w := by
  have k := AnyE.slices_Clone_nil clL_86 n c w
  have k2 := clipN_132 0 w
  go_enter Tryz.func86, Tryz.ntmps86
  go_wp2_with (first | (go_at_call 133; refine k.mono ?_; rintro e w' ⟨rfl, rfl⟩) | (go_at_call 132; refine k2.mono ?_; rintro e w'' ⟨rfl, rfl⟩))
  go_ret
  exact ⟨rfl, rfl⟩
theorem clone_86 : RunOk Tryz.prog fun f' args imps => if f' = 86 then (cloneQ 4 1024 args).map fun m => (m, imps) else none := by
  have hk : okT Tryz.prog 76 = true := by kernel_rfl
  have ht : tsize Tryz.prog 76 = 4 := by kernel_rfl
  have hb : Nat.ble (tbytes Tryz.prog 76) 1024 = true := by kernel_rfl
  obtain ⟨i0, z, hi, hz, _, hzs⟩ := zero_cells hk
  have h1 : i0.size = 4 := by rw [← ht]; unfold tsize; rw [hi]
  have h2 : i0.bytes ≤ 1024 := by
    have := Nat.le_of_ble_eq_true hb
    unfold tbytes at this; rw [hi] at this; exact this
  refine @clone_ok _ _ 4 1024 76 (by decide) (fun v w => run_enter (c := (match Tryz.f86.body with | some c => c | none => .skip)) Tryz.func86 (by kernel_rfl) (by kernel_rfl) _ _) cloneN_86 fun a n c news w hl hn hc ho => ?_
  have hnb : n * i0.bytes ≤ 140737488355328 := Nat.le_trans (Nat.mul_le_mul_left n h2) (by omega)
  by_cases h0 : 0 < n
  · obtain ⟨hs, hc⟩ := hc h0
    obtain ⟨b, off, spot⟩ := a
    simp only at hs
    subst hs
    exact cloneS_86 _ n c news w (AnyE.slices_Clone clL_86 i0 z 4 i0.bytes hi hz h1 rfl (by rw [hzs, ht]) (by decide) Tryz.sizeOf76 b off n c news w hl (by unfold maxLen; omega) hnb hc ho)
  · obtain rfl : n = 0 := by omega
    obtain rfl : news = [] := List.length_eq_zero_iff.1 (by omega)
    exact cloneS_86 _ 0 c [] w (cl_zero clL_86 i0 z 4 i0.bytes hi hz h1 rfl (by rw [hzs, ht]) (by decide) Tryz.sizeOf76 a c w)
/-! impl.clone[impl.CmtCommit] -/
def clren_87 : Go.Shelf.Ren := ⟨fun | 41 => 135 | n => n, fun | 22 => 25 | 23 => 72 | 4 => 4 | n => n, fun | n => n⟩
theorem clL_87 : Go.Proofs.SlLaysE0.n41 Tryz.prog clren_87 := {
  mixed := by kernel_rfl
  f41 := ⟨Tryz.f135.name, by decide, Tryz.func135.trans (congrArg some (by kernel_rfl))⟩
  t4 := Tryz.underlying4
  a4 := Tryz.isAgg4
  z4 := Tryz.sizeOf4
  v4 := Tryz.zeroValue4
  t22 := Tryz.underlying25
  a22 := Tryz.isAgg25
  z22 := Tryz.sizeOf25
  v22 := Tryz.zeroValue25 }
theorem clip_134 (a : Addr) (n c : Nat) (hn : n ≤ c) (w : World) : Calls Tryz.prog 134 #[.slice (some a) n c] w fun e w' => e = .returned (.slice (some a) n n) ∧ w' = w := by
  go_enter Tryz.func134, Tryz.ntmps134
  go_wp2
  go_ret
  exact ⟨rfl, rfl⟩
theorem clipN_134 (c : Nat) (w : World) : Calls Tryz.prog 134 #[.slice none 0 c] w fun e w' => e = .returned (.slice none 0 0) ∧ w' = w := by
  go_enter Tryz.func134, Tryz.ntmps134
  go_wp2
  go_ret
  exact ⟨rfl, rfl⟩
theorem cloneS_87 (a : Addr) (n c : Nat) (news : List Value) (w : World) (k : Calls Tryz.prog 135 #[.slice (some a) n c] w fun e w' => ∃ v', e = .returned v' ∧ w'.ownsRow w.heap.size 72 13 v' n news ∧ v' ≠ .slice none 0 0 ∧ Below w.heap.size w w') :
    Calls Tryz.prog 87 #[.slice (some a) n c] w fun e w' => ∃ g cur, e = .returned (.slice (some ⟨g, 0, none⟩) n n) ∧ w.heap.size ≤ g ∧ w'.heap[g]? = some (.cells cur 72 (0, 0)) ∧ n * 13 ≤ cur.size ∧ cur.toList.take (n * 13) = news ∧ Below w.heap.size w w' := by
  go_enter Tryz.func87, Tryz.ntmps87
  go_wp2_with (go_at_call 135; refine k.mono ?_; rintro e w' ⟨v', rfl, hown, hnn, hB⟩)
  obtain ⟨g, cap, cur, rfl, hle, hg, hh, hsz, htk⟩ := owns_p hown hnn
  clear hown hnn
  have k2 := clip_134 ⟨g, 0, none⟩ n cap hle w'
  have A : Aside (w'.heap[g]? = some (.cells cur 72 (0, 0)) ∧ cur.toList.take (n * 13) = news ∧ n * 13 ≤ cur.size) := ⟨hh, htk, hsz⟩
  clear hh htk hsz
  go_wp2_with (go_at_call 134; refine k2.mono ?_; rintro e w'' ⟨rfl, rfl⟩)
  go_ret
  exact ⟨g, cur, rfl, hg, A.out.1, A.out.2.2, A.out.2.1, hB⟩
theorem cloneN_87 (n c : Nat) (w : World) : Calls Tryz.prog 87 #[.slice none n c] w fun e w' => e = .returned (.slice none 0 0) ∧ w' = w := by
  have k := AnyE.slices_Clone_nil clL_87 n c w
  have k2 := clipN_134 0 w
  go_enter Tryz.func87, Tryz.ntmps87
  go_wp2_with (first | (go_at_call 135; refine k.mono ?_; rintro e w' ⟨rfl, rfl⟩) | (go_at_call 134; refine k2.mono ?_; rintro e w'' ⟨rfl, rfl⟩))
  go_ret
  exact ⟨rfl, rfl⟩
theorem clone_87 : RunOk Tryz.prog fun f' args imps => if f' = 87 then (cloneQ 13 1024 args).map fun m => (m, imps) else none := by
  have hk : okT Tryz.prog 72 = true := by kernel_rfl
  have ht : tsize Tryz.prog 72 = 13 := by kernel_rfl
  have hb : Nat.ble (tbytes Tryz.prog 72) 1024 = true := by kernel_rfl
  obtain ⟨i0, z, hi, hz, _, hzs⟩ := zero_cells hk
  have h1 : i0.size = 13 := by rw [← ht]; unfold tsize; rw [hi]
  have h2 : i0.bytes ≤ 1024 := by
    have := Nat.le_of_ble_eq_true hb
    unfold tbytes at this; rw [hi] at this; exact this
  refine @clone_ok _ _ 13 1024 72 (by decide) (fun v w => run_enter (c := (match Tryz.f87.body with | some c => c | none => .skip)) Tryz.func87 (by kernel_rfl) (by kernel_rfl) _ _) cloneN_87 fun a n c news w hl hn hc ho => ?_
  have hnb : n * i0.bytes ≤ 140737488355328 := Nat.le_trans (Nat.mul_le_mul_left n h2) (by omega)
  by_cases h0 : 0 < n
  · obtain ⟨hs, hc⟩ := hc h0
    obtain ⟨b, off, spot⟩ := a
    simp only at hs
    subst hs
    exact cloneS_87 _ n c news w (AnyE.slices_Clone clL_87 i0 z 13 i0.bytes hi hz h1 rfl (by rw [hzs, ht]) (by decide) Tryz.sizeOf72 b off n c news w hl (by unfold maxLen; omega) hnb hc ho)
  · obtain rfl : n = 0 := by omega
    obtain rfl : news = [] := List.length_eq_zero_iff.1 (by omega)
    exact cloneS_87 _ 0 c [] w (cl_zero clL_87 i0 z 13 i0.bytes hi hz h1 rfl (by rw [hzs, ht]) (by decide) Tryz.sizeOf72 a c w)
/-! impl.clone[int] -/
def clren_88 : Go.Shelf.Ren := ⟨fun | 41 => 137 | n => n, fun | 22 => 26 | 23 => 3 | 4 => 4 | n => n, fun | n => n⟩
theorem clL_88 : Go.Proofs.SlLaysE0.n41 Tryz.prog clren_88 := {
  mixed := by kernel_rfl
  f41 := ⟨Tryz.f137.name, by decide, Tryz.func137.trans (congrArg some (by kernel_rfl))⟩
  t4 := Tryz.underlying4
  a4 := Tryz.isAgg4
  z4 := Tryz.sizeOf4
  v4 := Tryz.zeroValue4
  t22 := Tryz.underlying26
  a22 := Tryz.isAgg26
  z22 := Tryz.sizeOf26
  v22 := Tryz.zeroValue26 }
theorem clip_136 (a : Addr) (n c : Nat) (hn : n ≤ c) (w : World) : Calls Tryz.prog 136 #[.slice (some a) n c] w fun e w' => e = .returned (.slice (some a) n n) ∧ w' = w := by
  go_enter Tryz.func136, Tryz.ntmps136
  go_wp2
  go_ret
  exact ⟨rfl, rfl⟩
theorem clipN_136 (c : Nat) (w : World) : Calls Tryz.prog 136 #[.slice none 0 c] w fun e w' => e = .returned (.slice none 0 0) ∧ w' = w := by
  go_enter Tryz.func136, Tryz.ntmps136
  go_wp2
  go_ret
  exact ⟨rfl, rfl⟩
theorem cloneS_88 (a : Addr) (n c : Nat) (news : List Value) (w : World) (k : Calls Tryz.prog 137 #[.slice (some a) n c] w fun e w' => ∃ v', e = .returned v' ∧ w'.ownsRow w.heap.size 3 1 v' n news ∧ v' ≠ .slice none 0 0 ∧ Below w.heap.size w w') :
    Calls Tryz.prog 88 #[.slice (some a) n c] w fun e w' => ∃ g cur, e = .returned (.slice (some ⟨g, 0, none⟩) n n) ∧ w.heap.size ≤ g ∧ w'.heap[g]? = some (.cells cur 3 (0, 0)) ∧ n * 1 ≤ cur.size ∧ cur.toList.take (n * 1) = news ∧ Below w.heap.size w w' := by
  go_enter Tryz.func88, Tryz.ntmps88
  go_wp2_with (go_at_call 137; refine k.mono ?_; rintro e w' ⟨v', rfl, hown, hnn, hB⟩)
  obtain ⟨g, cap, cur, rfl, hle, hg, hh, hsz, htk⟩ := owns_p hown hnn
  clear hown hnn
  have k2 := clip_136 ⟨g, 0, none⟩ n cap hle w'
  have A : Aside (w'.heap[g]? = some (.cells cur 3 (0, 0)) ∧ cur.toList.take (n * 1) = news ∧ n * 1 ≤ cur.size) := ⟨hh, htk, hsz⟩
  clear hh htk hsz
  go_wp2_with (go_at_call 136; refine k2.mono ?_; rintro e w'' ⟨rfl, rfl⟩)
  go_ret
  exact ⟨g, cur, rfl, hg, A.out.1, A.out.2.2, A.out.2.1, hB⟩
theorem cloneN_88 (n c : Nat) (w : World) : Calls Tryz.prog 88 #[.slice none n c] w fun e w' => e = .returned (.slice none 0 0) ∧ w' = w := by
  have k := AnyE.slices_Clone_nil clL_88 n c w
  have k2 := clipN_136 0 w
  go_enter Tryz.func88, Tryz.ntmps88
  go_wp2_with (first | (go_at_call 137; refine k.mono ?_; rintro e w' ⟨rfl, rfl⟩) | (go_at_call 136; refine k2.mono ?_; rintro e w'' ⟨rfl, rfl⟩))
  go_ret
  exact ⟨rfl, rfl⟩
theorem clone_88 : RunOk Tryz.prog fun f' args imps => if f' = 88 then (cloneQ 1 1024 args).map fun m => (m, imps) else none := by
  have hk : okT Tryz.prog 3 = true := by kernel_rfl
  have ht : tsize Tryz.prog 3 = 1 := by kernel_rfl
  have hb : Nat.ble (tbytes Tryz.prog 3) 1024 = true := by kernel_rfl
  obtain ⟨i0, z, hi, hz, _, hzs⟩ := zero_cells hk
  have h1 : i0.size = 1 := by rw [← ht]; unfold tsize; rw [hi]
  have h2 : i0.bytes ≤ 1024 := by
    have := Nat.le_of_ble_eq_true hb
    unfold tbytes at this; rw [hi] at this; exact this
  refine @clone_ok _ _ 1 1024 3 (by decide) (fun v w => run_enter (c := (match Tryz.f88.body with | some c => c | none => .skip)) Tryz.func88 (by kernel_rfl) (by kernel_rfl) _ _) cloneN_88 fun a n c news w hl hn hc ho => ?_
  have hnb : n * i0.bytes ≤ 140737488355328 := Nat.le_trans (Nat.mul_le_mul_left n h2) (by omega)
  by_cases h0 : 0 < n
  · obtain ⟨hs, hc⟩ := hc h0
    obtain ⟨b, off, spot⟩ := a
    simp only at hs
    subst hs
    exact cloneS_88 _ n c news w (AnyE.slices_Clone clL_88 i0 z 1 i0.bytes hi hz h1 rfl (by rw [hzs, ht]) (by decide) Tryz.sizeOf3 b off n c news w hl (by unfold maxLen; omega) hnb hc ho)
  · obtain rfl : n = 0 := by omega
    obtain rfl : news = [] := List.length_eq_zero_iff.1 (by omega)
    exact cloneS_88 _ 0 c [] w (cl_zero clL_88 i0 z 1 i0.bytes hi hz h1 rfl (by rw [hzs, ht]) (by decide) Tryz.sizeOf3 a c w)
/-! impl.clone[impl.GrpSteal] -/
def clren_89 : Go.Shelf.Ren := ⟨fun | 41 => 139 | n => n, fun | 22 => 28 | 23 => 82 | 4 => 4 | n => n, fun | n => n⟩
theorem clL_89 : Go.Proofs.SlLaysE0.n41 Tryz.prog clren_89 := {
  mixed := by kernel_rfl
  f41 := ⟨Tryz.f139.name, by decide, Tryz.func139.trans (congrArg some (by kernel_rfl))⟩
  t4 := Tryz.underlying4
  a4 := Tryz.isAgg4
  z4 := Tryz.sizeOf4
  v4 := Tryz.zeroValue4
  t22 := Tryz.underlying28
  a22 := Tryz.isAgg28
  z22 := Tryz.sizeOf28
  v22 := Tryz.zeroValue28 }
theorem clip_138 (a : Addr) (n c : Nat) (hn : n ≤ c) (w : World) : Calls Tryz.prog 138 #[.slice (some a) n c] w fun e w' => e = .returned (.slice (some a) n n) ∧ w' = w := by
  go_enter Tryz.func138, Tryz.ntmps138
  go_wp2
  go_ret
  exact ⟨rfl, rfl⟩
theorem clipN_138 (c : Nat) (w : World) : Calls Tryz.prog 138 #[.slice none 0 c] w fun e w' => e = .returned (.slice none 0 0) ∧ w' = w := by
  go_enter Tryz.func138, Tryz.ntmps138
  go_wp2
  go_ret
  exact ⟨rfl, rfl⟩
theorem cloneS_89 (a : Addr) (n c : Nat) (news : List Value) (w : World) (k : Calls Tryz.prog 139 #[.slice (some a) n c] w fun e w' => ∃ v', e = .returned v' ∧ w'.ownsRow w.heap.size 82 2 v' n news ∧ v' ≠ .slice none 0 0 ∧ Below w.heap.size w w') :
    Calls Tryz.prog 89 #[.slice (some a) n c] w fun e w' => ∃ g cur, e = .returned (.slice (some ⟨g, 0, none⟩) n n) ∧ w.heap.size ≤ g ∧ w'.heap[g]? = some (.cells cur 82 (0, 0)) ∧ n * 2 ≤ cur.size ∧ cur.toList.take (n * 2) = news ∧ Below w.heap.size w w' := by
  go_enter Tryz.func89, Tryz.ntmps89
  go_wp2_with (go_at_call 139; refine k.mono ?_; rintro e w' ⟨v', rfl, hown, hnn, hB⟩)
  obtain ⟨g, cap, cur, rfl, hle, hg, hh, hsz, htk⟩ := owns_p hown hnn
  clear hown hnn
  have k2 := clip_138 ⟨g, 0, none⟩ n cap hle w'
  have A : Aside (w'.heap[g]? = some (.cells cur 82 (0, 0)) ∧ cur.toList.take (n * 2) = news ∧ n * 2 ≤ cur.size) := ⟨hh, htk, hsz⟩
  clear hh htk hsz
  go_wp2_with (go_at_call 138; refine k2.mono ?_; rintro e w'' ⟨rfl, rfl⟩)
  go_ret
  exact ⟨g, cur, rfl, hg, A.out.1, A.out.2.2, A.out.2.1, hB⟩
theorem cloneN_89 (n c : Nat) (w : World) : Calls Tryz.prog 89 #[.slice none n c] w fun e w' => e = .returned (.slice none 0 0) ∧ w' = w := by
  have k := AnyE.slices_Clone_nil clL_89 n c w
  have k2 := clipN_138 0 w
  go_enter Tryz.func89, Tryz.ntmps89
  go_wp2_with (first | (go_at_call 139; refine k.mono ?_; rintro e w' ⟨rfl, rfl⟩) | (go_at_call 138; refine k2.mono ?_; rintro e w'' ⟨rfl, rfl⟩))
  go_ret
  exact ⟨rfl, rfl⟩
theorem clone_89 : RunOk Tryz.prog fun f' args imps => if f' = 89 then (cloneQ 2 1024 args).map fun m => (m, imps) else none := by
  have hk : okT Tryz.prog 82 = true := by kernel_rfl
  have ht : tsize Tryz.prog 82 = 2 := by kernel_rfl
  have hb : Nat.ble (tbytes Tryz.prog 82) 1024 = true := by kernel_rfl
  obtain ⟨i0, z, hi, hz, _, hzs⟩ := zero_cells hk
  have h1 : i0.size = 2 := by rw [← ht]; unfold tsize; rw [hi]
  have h2 : i0.bytes ≤ 1024 := by
    have := Nat.le_of_ble_eq_true hb
    unfold tbytes at this; rw [hi] at this; exact this
  refine @clone_ok _ _ 2 1024 82 (by decide) (fun v w => run_enter (c := (match Tryz.f89.body with | some c => c | none => .skip)) Tryz.func89 (by kernel_rfl) (by kernel_rfl) _ _) cloneN_89 fun a n c news w hl hn hc ho => ?_
  have hnb : n * i0.bytes ≤ 140737488355328 := Nat.le_trans (Nat.mul_le_mul_left n h2) (by omega)
  by_cases h0 : 0 < n
  · obtain ⟨hs, hc⟩ := hc h0
    obtain ⟨b, off, spot⟩ := a
    simp only at hs
    subst hs
    exact cloneS_89 _ n c news w (AnyE.slices_Clone clL_89 i0 z 2 i0.bytes hi hz h1 rfl (by rw [hzs, ht]) (by decide) Tryz.sizeOf82 b off n c news w hl (by unfold maxLen; omega) hnb hc ho)
  · obtain rfl : n = 0 := by omega
    obtain rfl : news = [] := List.length_eq_zero_iff.1 (by omega)
    exact cloneS_89 _ 0 c [] w (cl_zero clL_89 i0 z 2 i0.bytes hi hz h1 rfl (by rw [hzs, ht]) (by decide) Tryz.sizeOf82 a c w)
/-! impl.clone[impl.FraFrame] -/
def clren_90 : Go.Shelf.Ren := ⟨fun | 41 => 141 | n => n, fun | 22 => 29 | 23 => 86 | 4 => 4 | n => n, fun | n => n⟩
theorem clL_90 : Go.Proofs.SlLaysE0.n41 Tryz.prog clren_90 := {
  mixed := by kernel_rfl
  f41 := ⟨Tryz.f141.name, by decide, Tryz.func141.trans (congrArg some (by kernel_rfl))⟩
  t4 := Tryz.underlying4
  a4 := Tryz.isAgg4
  z4 := Tryz.sizeOf4
  v4 := Tryz.zeroValue4
  t22 := Tryz.underlying29
  a22 := Tryz.isAgg29
  z22 := Tryz.sizeOf29
  v22 := Tryz.zeroValue29 }
theorem clip_140 (a : Addr) (n c : Nat) (hn : n ≤ c) (w : World) : Calls Tryz.prog 140 #[.slice (some a) n c] w fun e w' => e = .returned (.slice (some a) n n) ∧ w' = w := by
  go_enter Tryz.func140, Tryz.ntmps140
  go_wp2
  go_ret
  exact ⟨rfl, rfl⟩
theorem clipN_140 (c : Nat) (w : World) : Calls Tryz.prog 140 #[.slice none 0 c] w fun e w' => e = .returned (.slice none 0 0) ∧ w' = w := by
  go_enter Tryz.func140, Tryz.ntmps140
  go_wp2
  go_ret
  exact ⟨rfl, rfl⟩
theorem cloneS_90 (a : Addr) (n c : Nat) (news : List Value) (w : World) (k : Calls Tryz.prog 141 #[.slice (some a) n c] w fun e w' => ∃ v', e = .returned v' ∧ w'.ownsRow w.heap.size 86 4 v' n news ∧ v' ≠ .slice none 0 0 ∧ Below w.heap.size w w') :
    Calls Tryz.prog 90 #[.slice (some a) n c] w fun e w' => ∃ g cur, e = .returned (.slice (some ⟨g, 0, none⟩) n n) ∧ w.heap.size ≤ g ∧ w'.heap[g]? = some (.cells cur 86 (0, 0)) ∧ n * 4 ≤ cur.size ∧ cur.toList.take (n * 4) = news ∧ Below w.heap.size w w' := by
  go_enter Tryz.func90, Tryz.ntmps90
  go_wp2_with (go_at_call 141; refine k.mono ?_; rintro e w' ⟨v', rfl, hown, hnn, hB⟩)
  obtain ⟨g, cap, cur, rfl, hle, hg, hh, hsz, htk⟩ := owns_p hown hnn
  clear hown hnn
  have k2 := clip_140 ⟨g, 0, none⟩ n cap hle w'
  have A : Aside (w'.heap[g]? = some (.cells cur 86 (0, 0)) ∧ cur.toList.take (n * 4) = news ∧ n * 4 ≤ cur.size) := ⟨hh, htk, hsz⟩
  clear hh htk hsz
  go_wp2_with (go_at_call 140; refine k2.mono ?_; rintro e w'' ⟨rfl, rfl⟩)
  go_ret
  exact ⟨g, cur, rfl, hg, A.out.1, A.out.2.2, A.out.2.1, hB⟩
theorem cloneN_90 (n c : Nat) (w : World) : Calls Tryz.prog 90 #[.slice none n c] w fun e w' => e = .returned (.slice none 0 0) ∧ w' = w := by
  have k := AnyE.slices_Clone_nil clL_90 n c w
  have k2 := clipN_140 0 w
  go_enter Tryz.func90, Tryz.ntmps90
  go_wp2_with (first | (go_at_call 141; refine k.mono ?_; rintro e w' ⟨rfl, rfl⟩) | (go_at_call 140; refine k2.mono ?_; rintro e w'' ⟨rfl, rfl⟩))
  go_ret
  exact ⟨rfl, rfl⟩
theorem clone_90 : RunOk Tryz.prog fun f' args imps => if f' = 90 then (cloneQ 4 1024 args).map fun m => (m, imps) else none := by
  have hk : okT Tryz.prog 86 = true := by kernel_rfl
  have ht : tsize Tryz.prog 86 = 4 := by kernel_rfl
  have hb : Nat.ble (tbytes Tryz.prog 86) 1024 = true := by kernel_rfl
  obtain ⟨i0, z, hi, hz, _, hzs⟩ := zero_cells hk
  have h1 : i0.size = 4 := by rw [← ht]; unfold tsize; rw [hi]
  have h2 : i0.bytes ≤ 1024 := by
    have := Nat.le_of_ble_eq_true hb
    unfold tbytes at this; rw [hi] at this; exact this
  refine @clone_ok _ _ 4 1024 86 (by decide) (fun v w => run_enter (c := (match Tryz.f90.body with | some c => c | none => .skip)) Tryz.func90 (by kernel_rfl) (by kernel_rfl) _ _) cloneN_90 fun a n c news w hl hn hc ho => ?_
  have hnb : n * i0.bytes ≤ 140737488355328 := Nat.le_trans (Nat.mul_le_mul_left n h2) (by omega)
  by_cases h0 : 0 < n
  · obtain ⟨hs, hc⟩ := hc h0
    obtain ⟨b, off, spot⟩ := a
    simp only at hs
    subst hs
    exact cloneS_90 _ n c news w (AnyE.slices_Clone clL_90 i0 z 4 i0.bytes hi hz h1 rfl (by rw [hzs, ht]) (by decide) Tryz.sizeOf86 b off n c news w hl (by unfold maxLen; omega) hnb hc ho)
  · obtain rfl : n = 0 := by omega
    obtain rfl : news = [] := List.length_eq_zero_iff.1 (by omega)
    exact cloneS_90 _ 0 c [] w (cl_zero clL_90 i0 z 4 i0.bytes hi hz h1 rfl (by rw [hzs, ht]) (by decide) Tryz.sizeOf86 a c w)
/-! impl.clone[[]impl.FraWin] -/
def clren_91 : Go.Shelf.Ren := ⟨fun | 41 => 143 | n => n, fun | 22 => 30 | 23 => 64 | 4 => 4 | n => n, fun | n => n⟩
theorem clL_91 : Go.Proofs.SlLaysE0.n41 Tryz.prog clren_91 := {
  mixed := by kernel_rfl
  f41 := ⟨Tryz.f143.name, by decide, Tryz.func143.trans (congrArg some (by kernel_rfl))⟩
  t4 := Tryz.underlying4
  a4 := Tryz.isAgg4
  z4 := Tryz.sizeOf4
  v4 := Tryz.zeroValue4
  t22 := Tryz.underlying30
  a22 := Tryz.isAgg30
  z22 := Tryz.sizeOf30
  v22 := Tryz.zeroValue30 }
theorem clip_142 (a : Addr) (n c : Nat) (hn : n ≤ c) (w : World) : Calls Tryz.prog 142 #[.slice (some a) n c] w fun e w' => e = .returned (.slice (some a) n n) ∧ w' = w := by
  go_enter Tryz.func142, Tryz.ntmps142
  go_wp2
  go_ret
  exact ⟨rfl, rfl⟩
theorem clipN_142 (c : Nat) (w : World) : Calls Tryz.prog 142 #[.slice none 0 c] w fun e w' => e = .returned (.slice none 0 0) ∧ w' = w := by
  go_enter Tryz.func142, Tryz.ntmps142
  go_wp2
  go_ret
  exact ⟨rfl, rfl⟩
theorem cloneS_91 (a : Addr) (n c : Nat) (news : List Value) (w : World) (k : Calls Tryz.prog 143 #[.slice (some a) n c] w fun e w' => ∃ v', e = .returned v' ∧ w'.ownsRow w.heap.size 64 1 v' n news ∧ v' ≠ .slice none 0 0 ∧ Below w.heap.size w w') :
    Calls Tryz.prog 91 #[.slice (some a) n c] w fun e w' => ∃ g cur, e = .returned (.slice (some ⟨g, 0, none⟩) n n) ∧ w.heap.size ≤ g ∧ w'.heap[g]? = some (.cells cur 64 (0, 0)) ∧ n * 1 ≤ cur.size ∧ cur.toList.take (n * 1) = news ∧ Below w.heap.size w w' := by
  go_enter Tryz.func91, Tryz.ntmps91
  go_wp2_with (go_at_call 143; refine k.mono ?_; rintro e w' ⟨v', rfl, hown, hnn, hB⟩)
  obtain ⟨g, cap, cur, rfl, hle, hg, hh, hsz, htk⟩ := owns_p hown hnn
  clear hown hnn
  have k2 := clip_142 ⟨g, 0, none⟩ n cap hle w'
  have A : Aside (w'.heap[g]? = some (.cells cur 64 (0, 0)) ∧ cur.toList.take (n * 1) = news ∧ n * 1 ≤ cur.size) := ⟨hh, htk, hsz⟩
  clear hh htk hsz
  go_wp2_with (go_at_call 142; refine k2.mono ?_; rintro e w'' ⟨rfl, rfl⟩)
  go_ret
  exact ⟨g, cur, rfl, hg, A.out.1, A.out.2.2, A.out.2.1, hB⟩
theorem cloneN_91 (n c : Nat) (w : World) : Calls Tryz.prog 91 #[.slice none n c] w fun e w' => e = .returned (.slice none 0 0) ∧ w' = w := by
  have k := AnyE.slices_Clone_nil clL_91 n c w
  have k2 := clipN_142 0 w
  go_enter Tryz.func91, Tryz.ntmps91
  go_wp2_with (first | (go_at_call 143; refine k.mono ?_; rintro e w' ⟨rfl, rfl⟩) | (go_at_call 142; refine k2.mono ?_; rintro e w'' ⟨rfl, rfl⟩))
  go_ret
  exact ⟨rfl, rfl⟩
theorem clone_91 : RunOk Tryz.prog fun f' args imps => if f' = 91 then (cloneQ 1 1024 args).map fun m => (m, imps) else none := by
  have hk : okT Tryz.prog 64 = true := by kernel_rfl
  have ht : tsize Tryz.prog 64 = 1 := by kernel_rfl
  have hb : Nat.ble (tbytes Tryz.prog 64) 1024 = true := by kernel_rfl
  obtain ⟨i0, z, hi, hz, _, hzs⟩ := zero_cells hk
  have h1 : i0.size = 1 := by rw [← ht]; unfold tsize; rw [hi]
  have h2 : i0.bytes ≤ 1024 := by
    have := Nat.le_of_ble_eq_true hb
    unfold tbytes at this; rw [hi] at this; exact this
  refine @clone_ok _ _ 1 1024 64 (by decide) (fun v w => run_enter (c := (match Tryz.f91.body with | some c => c | none => .skip)) Tryz.func91 (by kernel_rfl) (by kernel_rfl) _ _) cloneN_91 fun a n c news w hl hn hc ho => ?_
  have hnb : n * i0.bytes ≤ 140737488355328 := Nat.le_trans (Nat.mul_le_mul_left n h2) (by omega)
  by_cases h0 : 0 < n
  · obtain ⟨hs, hc⟩ := hc h0
    obtain ⟨b, off, spot⟩ := a
    simp only at hs
    subst hs
    exact cloneS_91 _ n c news w (AnyE.slices_Clone clL_91 i0 z 1 i0.bytes hi hz h1 rfl (by rw [hzs, ht]) (by decide) Tryz.sizeOf64 b off n c news w hl (by unfold maxLen; omega) hnb hc ho)
  · obtain rfl : n = 0 := by omega
    obtain rfl : news = [] := List.length_eq_zero_iff.1 (by omega)
    exact cloneS_91 _ 0 c [] w (cl_zero clL_91 i0 z 1 i0.bytes hi hz h1 rfl (by rw [hzs, ht]) (by decide) Tryz.sizeOf64 a c w)
/-! impl.clone[impl.GrpTold] -/
def clren_92 : Go.Shelf.Ren := ⟨fun | 41 => 145 | n => n, fun | 22 => 31 | 23 => 90 | 4 => 4 | n => n, fun | n => n⟩
theorem clL_92 : Go.Proofs.SlLaysE0.n41 Tryz.prog clren_92 := {
  mixed := by kernel_rfl
  f41 := ⟨Tryz.f145.name, by decide, Tryz.func145.trans (congrArg some (by kernel_rfl))⟩
  t4 := Tryz.underlying4
  a4 := Tryz.isAgg4
  z4 := Tryz.sizeOf4
  v4 := Tryz.zeroValue4
  t22 := Tryz.underlying31
  a22 := Tryz.isAgg31
  z22 := Tryz.sizeOf31
  v22 := Tryz.zeroValue31 }
theorem clip_144 (a : Addr) (n c : Nat) (hn : n ≤ c) (w : World) : Calls Tryz.prog 144 #[.slice (some a) n c] w fun e w' => e = .returned (.slice (some a) n n) ∧ w' = w := by
  go_enter Tryz.func144, Tryz.ntmps144
  go_wp2
  go_ret
  exact ⟨rfl, rfl⟩
theorem clipN_144 (c : Nat) (w : World) : Calls Tryz.prog 144 #[.slice none 0 c] w fun e w' => e = .returned (.slice none 0 0) ∧ w' = w := by
  go_enter Tryz.func144, Tryz.ntmps144
  go_wp2
  go_ret
  exact ⟨rfl, rfl⟩
theorem cloneS_92 (a : Addr) (n c : Nat) (news : List Value) (w : World) (k : Calls Tryz.prog 145 #[.slice (some a) n c] w fun e w' => ∃ v', e = .returned v' ∧ w'.ownsRow w.heap.size 90 2 v' n news ∧ v' ≠ .slice none 0 0 ∧ Below w.heap.size w w') :
    Calls Tryz.prog 92 #[.slice (some a) n c] w fun e w' => ∃ g cur, e = .returned (.slice (some ⟨g, 0, none⟩) n n) ∧ w.heap.size ≤ g ∧ w'.heap[g]? = some (.cells cur 90 (0, 0)) ∧ n * 2 ≤ cur.size ∧ cur.toList.take (n * 2) = news ∧ Below w.heap.size w w' := by
  go_enter Tryz.func92, Tryz.ntmps92
  go_wp2_with (go_at_call 145; refine k.mono ?_; rintro e w' ⟨v', rfl, hown, hnn, hB⟩)
  obtain ⟨g, cap, cur, rfl, hle, hg, hh, hsz, htk⟩ := owns_p hown hnn
  clear hown hnn
  have k2 := clip_144 ⟨g, 0, none⟩ n cap hle w'
  have A : Aside (w'.heap[g]? = some (.cells cur 90 (0, 0)) ∧ cur.toList.take (n * 2) = news ∧ n * 2 ≤ cur.size) := ⟨hh, htk, hsz⟩
  clear hh htk hsz
  go_wp2_with (go_at_call 144; refine k2.mono ?_; rintro e w'' ⟨rfl, rfl⟩)
  go_ret
  exact ⟨g, cur, rfl, hg, A.out.1, A.out.2.2, A.out.2.1, hB⟩
theorem cloneN_92 (n c : Nat) (w : World) : Calls Tryz.prog 92 #[.slice none n c] w fun e w' => e = .returned (.slice none 0 0) ∧ w' = w := by
  have k := AnyE.slices_Clone_nil clL_92 n c w
  have k2 := clipN_144 0 w
  go_enter Tryz.func92, Tryz.ntmps92
  go_wp2_with (first | (go_at_call 145; refine k.mono ?_; rintro e w' ⟨rfl, rfl⟩) | (go_at_call 144; refine k2.mono ?_; rintro e w'' ⟨rfl, rfl⟩))
  go_ret
  exact ⟨rfl, rfl⟩
theorem clone_92 : RunOk Tryz.prog fun f' args imps => if f' = 92 then (cloneQ 2 1024 args).map fun m => (m, imps) else none := by
  have hk : okT Tryz.prog 90 = true := by kernel_rfl
  have ht : tsize Tryz.prog 90 = 2 := by kernel_rfl
  have hb : Nat.ble (tbytes Tryz.prog 90) 1024 = true := by kernel_rfl
  obtain ⟨i0, z, hi, hz, _, hzs⟩ := zero_cells hk
  have h1 : i0.size = 2 := by rw [← ht]; unfold tsize; rw [hi]
  have h2 : i0.bytes ≤ 1024 := by
    have := Nat.le_of_ble_eq_true hb
    unfold tbytes at this; rw [hi] at this; exact this
  refine @clone_ok _ _ 2 1024 90 (by decide) (fun v w => run_enter (c := (match Tryz.f92.body with | some c => c | none => .skip)) Tryz.func92 (by kernel_rfl) (by kernel_rfl) _ _) cloneN_92 fun a n c news w hl hn hc ho => ?_
  have hnb : n * i0.bytes ≤ 140737488355328 := Nat.le_trans (Nat.mul_le_mul_left n h2) (by omega)
  by_cases h0 : 0 < n
  · obtain ⟨hs, hc⟩ := hc h0
    obtain ⟨b, off, spot⟩ := a
    simp only at hs
    subst hs
    exact cloneS_92 _ n c news w (AnyE.slices_Clone clL_92 i0 z 2 i0.bytes hi hz h1 rfl (by rw [hzs, ht]) (by decide) Tryz.sizeOf90 b off n c news w hl (by unfold maxLen; omega) hnb hc ho)
  · obtain rfl : n = 0 := by omega
    obtain rfl : news = [] := List.length_eq_zero_iff.1 (by omega)
    exact cloneS_92 _ 0 c [] w (cl_zero clL_92 i0 z 2 i0.bytes hi hz h1 rfl (by rw [hzs, ht]) (by decide) Tryz.sizeOf90 a c w)
/-! impl.clone[impl.MemOwn] -/
def clren_146 : Go.Shelf.Ren := ⟨fun | 41 => 173 | n => n, fun | 22 => 41 | 23 => 53 | 4 => 4 | n => n, fun | n => n⟩
theorem clL_146 : Go.Proofs.SlLaysE0.n41 Tryz.prog clren_146 := {
  mixed := by kernel_rfl
  f41 := ⟨Tryz.f173.name, by decide, Tryz.func173.trans (congrArg some (by kernel_rfl))⟩
  t4 := Tryz.underlying4
  a4 := Tryz.isAgg4
  z4 := Tryz.sizeOf4
  v4 := Tryz.zeroValue4
  t22 := Tryz.underlying41
  a22 := Tryz.isAgg41
  z22 := Tryz.sizeOf41
  v22 := Tryz.zeroValue41 }
theorem clip_172 (a : Addr) (n c : Nat) (hn : n ≤ c) (w : World) : Calls Tryz.prog 172 #[.slice (some a) n c] w fun e w' => e = .returned (.slice (some a) n n) ∧ w' = w := by
  go_enter Tryz.func172, Tryz.ntmps172
  go_wp2
  go_ret
  exact ⟨rfl, rfl⟩
theorem clipN_172 (c : Nat) (w : World) : Calls Tryz.prog 172 #[.slice none 0 c] w fun e w' => e = .returned (.slice none 0 0) ∧ w' = w := by
  go_enter Tryz.func172, Tryz.ntmps172
  go_wp2
  go_ret
  exact ⟨rfl, rfl⟩
theorem cloneS_146 (a : Addr) (n c : Nat) (news : List Value) (w : World) (k : Calls Tryz.prog 173 #[.slice (some a) n c] w fun e w' => ∃ v', e = .returned v' ∧ w'.ownsRow w.heap.size 53 2 v' n news ∧ v' ≠ .slice none 0 0 ∧ Below w.heap.size w w') :
    Calls Tryz.prog 146 #[.slice (some a) n c] w fun e w' => ∃ g cur, e = .returned (.slice (some ⟨g, 0, none⟩) n n) ∧ w.heap.size ≤ g ∧ w'.heap[g]? = some (.cells cur 53 (0, 0)) ∧ n * 2 ≤ cur.size ∧ cur.toList.take (n * 2) = news ∧ Below w.heap.size w w' := by
  go_enter Tryz.func146, Tryz.ntmps146
  go_wp2_with (go_at_call 173; refine k.mono ?_; rintro e w' ⟨v', rfl, hown, hnn, hB⟩)
  obtain ⟨g, cap, cur, rfl, hle, hg, hh, hsz, htk⟩ := owns_p hown hnn
  clear hown hnn
  have k2 := clip_172 ⟨g, 0, none⟩ n cap hle w'
  have A : Aside (w'.heap[g]? = some (.cells cur 53 (0, 0)) ∧ cur.toList.take (n * 2) = news ∧ n * 2 ≤ cur.size) := ⟨hh, htk, hsz⟩
  clear hh htk hsz
  go_wp2_with (go_at_call 172; refine k2.mono ?_; rintro e w'' ⟨rfl, rfl⟩)
  go_ret
  exact ⟨g, cur, rfl, hg, A.out.1, A.out.2.2, A.out.2.1, hB⟩
theorem cloneN_146 (n c : Nat) (w : World) : Calls Tryz.prog 146 #[.slice none n c] w fun e w' => e = .returned (.slice none 0 0) ∧ w' = w := by
  have k := AnyE.slices_Clone_nil clL_146 n c w
  have k2 := clipN_172 0 w
  go_enter Tryz.func146, Tryz.ntmps146
  go_wp2_with (first | (go_at_call 173; refine k.mono ?_; rintro e w' ⟨rfl, rfl⟩) | (go_at_call 172; refine k2.mono ?_; rintro e w'' ⟨rfl, rfl⟩))
  go_ret
  exact ⟨rfl, rfl⟩
theorem clone_146 : RunOk Tryz.prog fun f' args imps => if f' = 146 then (cloneQ 2 1024 args).map fun m => (m, imps) else none := by
  have hk : okT Tryz.prog 53 = true := by kernel_rfl
  have ht : tsize Tryz.prog 53 = 2 := by kernel_rfl
  have hb : Nat.ble (tbytes Tryz.prog 53) 1024 = true := by kernel_rfl
  obtain ⟨i0, z, hi, hz, _, hzs⟩ := zero_cells hk
  have h1 : i0.size = 2 := by rw [← ht]; unfold tsize; rw [hi]
  have h2 : i0.bytes ≤ 1024 := by
    have := Nat.le_of_ble_eq_true hb
    unfold tbytes at this; rw [hi] at this; exact this
  refine @clone_ok _ _ 2 1024 53 (by decide) (fun v w => run_enter (c := (match Tryz.f146.body with | some c => c | none => .skip)) Tryz.func146 (by kernel_rfl) (by kernel_rfl) _ _) cloneN_146 fun a n c news w hl hn hc ho => ?_
  have hnb : n * i0.bytes ≤ 140737488355328 := Nat.le_trans (Nat.mul_le_mul_left n h2) (by omega)
  by_cases h0 : 0 < n
  · obtain ⟨hs, hc⟩ := hc h0
    obtain ⟨b, off, spot⟩ := a
    simp only at hs
    subst hs
    exact cloneS_146 _ n c news w (AnyE.slices_Clone clL_146 i0 z 2 i0.bytes hi hz h1 rfl (by rw [hzs, ht]) (by decide) Tryz.sizeOf53 b off n c news w hl (by unfold maxLen; omega) hnb hc ho)
  · obtain rfl : n = 0 := by omega
    obtain rfl : news = [] := List.length_eq_zero_iff.1 (by omega)
    exact cloneS_146 _ 0 c [] w (cl_zero clL_146 i0 z 2 i0.bytes hi hz h1 rfl (by rw [hzs, ht]) (by decide) Tryz.sizeOf53 a c w)
/-! impl.clone[impl.FraWin] -/
def clren_147 : Go.Shelf.Ren := ⟨fun | 41 => 175 | n => n, fun | 22 => 64 | 23 => 112 | 4 => 4 | n => n, fun | n => n⟩
theorem clL_147 : Go.Proofs.SlLaysE0.n41 Tryz.prog clren_147 := {
  mixed := by kernel_rfl
  f41 := ⟨Tryz.f175.name, by decide, Tryz.func175.trans (congrArg some (by kernel_rfl))⟩
  t4 := Tryz.underlying4
  a4 := Tryz.isAgg4
  z4 := Tryz.sizeOf4
  v4 := Tryz.zeroValue4
  t22 := Tryz.underlying64
  a22 := Tryz.isAgg64
  z22 := Tryz.sizeOf64
  v22 := Tryz.zeroValue64 }
theorem clip_174 (a : Addr) (n c : Nat) (hn : n ≤ c) (w : World) : Calls Tryz.prog 174 #[.slice (some a) n c] w fun e w' => e = .returned (.slice (some a) n n) ∧ w' = w := by
  go_enter Tryz.func174, Tryz.ntmps174
  go_wp2
  go_ret
  exact ⟨rfl, rfl⟩
theorem clipN_174 (c : Nat) (w : World) : Calls Tryz.prog 174 #[.slice none 0 c] w fun e w' => e = .returned (.slice none 0 0) ∧ w' = w := by
  go_enter Tryz.func174, Tryz.ntmps174
  go_wp2
  go_ret
  exact ⟨rfl, rfl⟩
theorem cloneS_147 (a : Addr) (n c : Nat) (news : List Value) (w : World) (k : Calls Tryz.prog 175 #[.slice (some a) n c] w fun e w' => ∃ v', e = .returned v' ∧ w'.ownsRow w.heap.size 112 3 v' n news ∧ v' ≠ .slice none 0 0 ∧ Below w.heap.size w w') :
    Calls Tryz.prog 147 #[.slice (some a) n c] w fun e w' => ∃ g cur, e = .returned (.slice (some ⟨g, 0, none⟩) n n) ∧ w.heap.size ≤ g ∧ w'.heap[g]? = some (.cells cur 112 (0, 0)) ∧ n * 3 ≤ cur.size ∧ cur.toList.take (n * 3) = news ∧ Below w.heap.size w w' := by
  go_enter Tryz.func147, Tryz.ntmps147
  go_wp2_with (go_at_call 175; refine k.mono ?_; rintro e w' ⟨v', rfl, hown, hnn, hB⟩)
  obtain ⟨g, cap, cur, rfl, hle, hg, hh, hsz, htk⟩ := owns_p hown hnn
  clear hown hnn
  have k2 := clip_174 ⟨g, 0, none⟩ n cap hle w'
  have A : Aside (w'.heap[g]? = some (.cells cur 112 (0, 0)) ∧ cur.toList.take (n * 3) = news ∧ n * 3 ≤ cur.size) := ⟨hh, htk, hsz⟩
  clear hh htk hsz
  go_wp2_with (go_at_call 174; refine k2.mono ?_; rintro e w'' ⟨rfl, rfl⟩)
  go_ret
  exact ⟨g, cur, rfl, hg, A.out.1, A.out.2.2, A.out.2.1, hB⟩
theorem cloneN_147 (n c : Nat) (w : World) : Calls Tryz.prog 147 #[.slice none n c] w fun e w' => e = .returned (.slice none 0 0) ∧ w' = w := by
  have k := AnyE.slices_Clone_nil clL_147 n c w
  have k2 := clipN_174 0 w
  go_enter Tryz.func147, Tryz.ntmps147
  go_wp2_with (first | (go_at_call 175; refine k.mono ?_; rintro e w' ⟨rfl, rfl⟩) | (go_at_call 174; refine k2.mono ?_; rintro e w'' ⟨rfl, rfl⟩))
  go_ret
  exact ⟨rfl, rfl⟩
theorem clone_147 : RunOk Tryz.prog fun f' args imps => if f' = 147 then (cloneQ 3 1024 args).map fun m => (m, imps) else none := by
  have hk : okT Tryz.prog 112 = true := by kernel_rfl
  have ht : tsize Tryz.prog 112 = 3 := by kernel_rfl
  have hb : Nat.ble (tbytes Tryz.prog 112) 1024 = true := by kernel_rfl
  obtain ⟨i0, z, hi, hz, _, hzs⟩ := zero_cells hk
  have h1 : i0.size = 3 := by rw [← ht]; unfold tsize; rw [hi]
  have h2 : i0.bytes ≤ 1024 := by
    have := Nat.le_of_ble_eq_true hb
    unfold tbytes at this; rw [hi] at this; exact this
  refine @clone_ok _ _ 3 1024 112 (by decide) (fun v w => run_enter (c := (match Tryz.f147.body with | some c => c | none => .skip)) Tryz.func147 (by kernel_rfl) (by kernel_rfl) _ _) cloneN_147 fun a n c news w hl hn hc ho => ?_
  have hnb : n * i0.bytes ≤ 140737488355328 := Nat.le_trans (Nat.mul_le_mul_left n h2) (by omega)
  by_cases h0 : 0 < n
  · obtain ⟨hs, hc⟩ := hc h0
    obtain ⟨b, off, spot⟩ := a
    simp only at hs
    subst hs
    exact cloneS_147 _ n c news w (AnyE.slices_Clone clL_147 i0 z 3 i0.bytes hi hz h1 rfl (by rw [hzs, ht]) (by decide) Tryz.sizeOf112 b off n c news w hl (by unfold maxLen; omega) hnb hc ho)
  · obtain rfl : n = 0 := by omega
    obtain rfl : news = [] := List.length_eq_zero_iff.1 (by omega)
    exact cloneS_147 _ 0 c [] w (cl_zero clL_147 i0 z 3 i0.bytes hi hz h1 rfl (by rw [hzs, ht]) (by decide) Tryz.sizeOf112 a c w)
end Kw
