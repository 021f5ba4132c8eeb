/- Proved here: the program's TagHas and the reference's answer the same for any two texts. No condition beyond the sizes that the row itself names. -/
import Derived.Test.YteflnfogfglndaaPFnExactTagHasx1
namespace Go.Proofs.Yteflnfogfglndaa.Pure
open Go.RowKit Go.Proofs.Yteflnfogfglndaa.PFnExactTagHas Go.Proofs.YteflnfogfglndaaW.PrintWords Go.Proofs.YteflnfogfglndaaW.PrintLast

theorem FnExactTagHas : laws_FnExactTagHas.Pure := by
  intro a0 a1 _ _
  unfold laws_FnExactTagHas.f
  by_cases h0 : (a0.size : Int) > 1048576
  · rw [if_pos h0]
  rw [if_neg h0]
  by_cases h1 : (a1.size : Int) > 1048576
  · rw [if_pos h1]
  rw [if_neg h1]
  have e : impl_TagHas.f a0 a1 = spec_TagHas.f a0 a1 := by
    unfold impl_TagHas.f strings_HasPrefix.f
    have : stringslite_HasPrefix.f a0 a1 = spec_TagHas.f a0 a1 := rfl
    rw [this]
    cases spec_TagHas.f a0 a1 <;> rfl
  have hs : ∃ b, spec_TagHas.f a0 a1 = some b := by
    unfold spec_TagHas.f
    by_cases h2 : (a0.size : Int) ≥ (a1.size : Int)
    · rw [if_pos h2, if_pos (by omega), if_pos (by omega)]; exact ⟨_, rfl⟩
    · rw [if_neg h2]; exact ⟨_, rfl⟩
  obtain ⟨b, hb⟩ := hs
  rw [e, hb]
  simp only [Option.bind_some]
  cases b <;> rfl

end Go.Proofs.Yteflnfogfglndaa.Pure
