/- SmearDone of the program returns what SmearDone of the reference returns, for every two integers of 64 bits. -/
import Derived.Test.YtnmoghmeinhfnaaPFnExactSmearDonex0
import Derived.Test.YtnmoghmeinhfnaaPFnExactSmearDonex1
namespace Go.Proofs.Ytnmoghmeinhfnaa.Pure
open Go.RowKit Go.Proofs.Ytnmoghmeinhfnaa.PFnExactSmearDone Go.Proofs.YtnmoghmeinhfnaaW.PrintWords Go.Proofs.YtnmoghmeinhfnaaW.PrintLast Go.Proofs.YtnmoghmeinhfnaaW.PrintMore
set_option linter.unusedVariables false
set_option linter.unusedSimpArgs false
theorem inR (a b c : Int) : spec_inRange.f a b c = some (decide (b ≤ a ∧ a ≤ c)) := by
  unfold spec_inRange.f; by_cases h : b ≤ a <;> simp [h]
theorem wiT (a b c : Int) : impl_within.f a b c = some (decide (b ≤ a ∧ a ≤ c)) := by
  unfold impl_within.f; by_cases h : b ≤ a <;> simp [h]

theorem FnExactSmearDone : laws_FnExactSmearDone.Pure := by
  intro a b _ _
  simp only [laws_FnExactSmearDone.f, spec_SmearDone.f, impl_SmearDone.f, spec_validLeapTime.f, impl_canSmear.f, inR, wiT, Option.bind_some, decide_eq_true_eq]
  by_cases h1 : 86400 ≤ a ∧ a ≤ 3786393599
  · by_cases h2 : 1 ≤ b ∧ b ≤ 1000000
    · have e : wrap64 ((wrap64 ((wrap64 (b * 86400)) + 1000000)) - 1) = wrap64 ((wrap64 (b * 86400)) + 999999) := by unfold wrap64; omega
      simp [h1, h2, e]
    · simp [h1, h2]
  · simp [h1]

end Go.Proofs.Ytnmoghmeinhfnaa.Pure
