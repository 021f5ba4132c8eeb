import Derived.Test.YtiogcgalhnjagaaGreatDoorW07
import Derived.ProofKit
import Derived.ChangeSlices
import Derived.ChangeOld
import Derived.Carry
namespace Kw
open Go Go.ChangeShapes Go.WideShapes Go.ChangeAt Go.RowKit
theorem u8_rng {n : Int} (h : (Lit.int .u8 n).wf = true) : 0 ≤ n ∧ n ≤ 255 := by
  simp [Lit.wf, IntKind.min, IntKind.max, IntKind.signed, IntKind.bits] at h
  omega
/-- a slice of bytes that came in -/
theorem open_u8s {H : Type} {enc : TypeId × Value → H} {P : Program} {W : World} {base : Nat} {t e : TypeId} {v : Value} {d : DataW H} {p : List MemPlace} (ht : P.underlying t = some (.slice e)) (he : P.underlying e = some (.int .u8)) (hc : P.cellsOf e = 1)
    (hval : Value.okWide P W .any base t v) (h : DataW.Trod enc P W 0 (fun _ => true) true t v d p) : ∃ l : List UInt8, SV W (there W) v (.sl (l.map fun x => [.int .u8 x.toNat])) := by
  obtain ⟨a1, len, cap, rfl⟩ := okWide_slice ht hval
  obtain ⟨fuel, hf⟩ := h
  rcases open_ints ht he hc hf with ⟨hcs, hx⟩ | ⟨a, len', cap', zs, hcs, _, hl, hm, hz, hx, hcell, hwz⟩
  · simp [Value.cells] at hcs
    obtain ⟨rfl, rfl, rfl⟩ := hcs
    exact ⟨[], .sl 1 (fun _ _ => .int .u8 0) rfl (Nat.le_refl _) (fun i row hi => by simp at hi) (fun h => absurd h (Nat.lt_irrefl 0)) (fun i row j m hi => by simp at hi)⟩
  · simp [Value.cells] at hcs
    obtain ⟨rfl, rfl, rfl⟩ := hcs
    simp only [Prod.mk.injEq] at hx
    obtain ⟨rfl, rfl⟩ := hx
    simp only [if_true] at hz
    have hlen : ((zs.take len).map fun n => UInt8.ofNat n.toNat).length = len := by simp; omega
    refine ⟨(zs.take len).map fun n => UInt8.ofNat n.toNat, ?_⟩
    by_cases h0 : len = 0
    · subst h0
      exact .sl 1 (fun _ _ => .int .u8 0) (by simp) hl (fun i row hi => by simp at hi) (fun h => absurd h (Nat.lt_irrefl 0)) (fun i row j m hi => by simp at hi)
    · have hc0 := hcell 0 (by omega)
      obtain ⟨ab, ao, spot⟩ := a
      have hspot : spot = none := by simpa [Addr.add] using World.cell?_spot hc0
      subst hspot
      have hin : ab < W.heap.size := by
        have := DataW.trod_lt _ _ _ _ hf (.cell ab ao) (by
          simp only [MemPlace.row, List.mem_map, List.mem_range]
          exact ⟨0, by omega, rfl⟩)
        exact this
      refine sv_bytes rfl hin hl _ hlen fun i x hi => ?_
      rw [List.getElem?_map] at hi
      obtain ⟨n, hn, e⟩ := Option.map_eq_some_iff.1 hi
      obtain ⟨hi', hn'⟩ := List.getElem?_eq_some_iff.1 hn
      have hil : i < zs.length := by simp at hi'; omega
      have hcj := hcell i hil
      rw [Addr.add_lit] at hcj
      rw [hcj, ← e]
      have en : zs.getD i 0 = n := by
        rw [← hn']; simp [List.getD, hil]
      rw [en]
      have hb := u8_rng (hwz n (by rw [← hn']; exact List.mem_of_mem_take (List.getElem_mem hi')))
      congr 2
      simp only [UInt8.toNat_ofNat']
      omega
end Kw
