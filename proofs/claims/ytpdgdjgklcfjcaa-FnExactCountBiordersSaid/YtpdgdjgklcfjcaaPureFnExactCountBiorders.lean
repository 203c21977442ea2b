/- CountBiorders: the program counts the biorders of each size as the reference does, for all numbers of rows and columns; no condition. -/
import Derived.Test.YtpdgdjgklcfjcaaPFnExactCountBiordersx2
namespace Go.Proofs.Ytpdgdjgklcfjcaa.Pure
open Go.RowKit Go.Proofs.Ytpdgdjgklcfjcaa.PFnExactCountBiorders Go.Proofs.YtpdgdjgklcfjcaaW.PrintWords Go.Proofs.YtpdgdjgklcfjcaaW.PrintLast

theorem out_spec (a0 a1 : Int) (h : ¬ (1 ≤ a0 ∧ a0 ≤ 6 ∧ 1 ≤ a1 ∧ a1 ≤ 6)) (k : Nat) : spec_CountBiorders.f (k + 1) a0 a1 = some (0, false) := by
  unfold spec_CountBiorders.f spec_l1In.f
  by_cases h0 : a0 ≥ 1
  · rw [if_pos h0]
    by_cases h1 : a0 ≤ 6
    · by_cases h2 : a1 ≥ 1
      · have h3 : ¬ a1 ≤ 6 := by omega
        simp [h1, h2, h3, spec_CountBiorders.j0]
      · simp [h1, h2, spec_CountBiorders.j0]
    · simp [h1, spec_CountBiorders.j0]
  · rw [if_neg h0]
    simp [spec_CountBiorders.j0]

theorem out_impl (a0 a1 : Int) (h : ¬ (1 ≤ a0 ∧ a0 ≤ 6 ∧ 1 ≤ a1 ∧ a1 ≤ 6)) (k : Nat) : impl_CountBiorders.f (k + 1) a0 a1 = some (0, false) := by
  unfold impl_CountBiorders.f impl_within.f
  by_cases h0 : a0 ≥ 1
  · rw [if_pos h0]
    by_cases h1 : a0 ≤ 6
    · by_cases h2 : a1 ≥ 1
      · have h3 : ¬ a1 ≤ 6 := by omega
        simp [h1, h2, h3, impl_CountBiorders.j0]
      · simp [h1, h2, impl_CountBiorders.j0]
    · simp [h1, impl_CountBiorders.j0]
  · rw [if_neg h0]
    simp [impl_CountBiorders.j0]

theorem inside : ∀ i < 6, ∀ j < 6, laws_FnExactCountBiorders.f 40 ((i : Nat) + 1 : Int) ((j : Nat) + 1 : Int) = some true := by
  decide +kernel

theorem FnExactCountBiorders : laws_FnExactCountBiorders.Pure := by
  intro a0 a1 _ _
  by_cases h : 1 ≤ a0 ∧ a0 ≤ 6 ∧ 1 ≤ a1 ∧ a1 ≤ 6
  · refine ⟨40, ?_⟩
    have := inside (a0 - 1).toNat (by omega) (a1 - 1).toNat (by omega)
    have e0 : (((a0 - 1).toNat : Nat) : Int) + 1 = a0 := by omega
    have e1 : (((a1 - 1).toNat : Nat) : Int) + 1 = a1 := by omega
    rw [e0, e1] at this
    exact this
  · refine ⟨1, ?_⟩
    unfold laws_FnExactCountBiorders.f
    rw [out_spec a0 a1 h 0, out_impl a0 a1 h 0]
    simp

end Go.Proofs.Ytpdgdjgklcfjcaa.Pure
