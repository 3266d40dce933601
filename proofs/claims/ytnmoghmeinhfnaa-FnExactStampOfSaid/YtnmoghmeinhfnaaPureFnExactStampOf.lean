/- StampOf of the program returns what StampOf of the reference returns, for every two integers of 64 bits. -/
import Derived.Test.YtnmoghmeinhfnaaPFnExactStampOfx0
import Derived.Test.YtnmoghmeinhfnaaPFnExactStampOfx1
namespace Go.Proofs.Ytnmoghmeinhfnaa.Pure
open Go.RowKit Go.Proofs.Ytnmoghmeinhfnaa.PFnExactStampOf Go.Proofs.YtnmoghmeinhfnaaW.PrintWords Go.Proofs.YtnmoghmeinhfnaaW.PrintLast Go.Proofs.YtnmoghmeinhfnaaW.PrintMore
set_option linter.unusedVariables false
set_option linter.unusedSimpArgs false
theorem inR (a b c : Int) : spec_inRange.f a b c = some (decide (b ≤ a ∧ a ≤ c)) := by
  unfold spec_inRange.f; by_cases h : b ≤ a <;> simp [h]
theorem wiT (a b c : Int) : impl_within.f a b c = some (decide (b ≤ a ∧ a ≤ c)) := by
  unfold impl_within.f; by_cases h : b ≤ a <;> simp [h]

theorem FnExactStampOf : laws_FnExactStampOf.Pure := by
  intro a b _ _
  simp only [laws_FnExactStampOf.f, spec_StampOf.f, impl_StampOf.f, inR, wiT, Option.bind_some, decide_eq_true_eq, Int.mul_comm 1000000 a]
  (repeat' split) <;> simp_all

end Go.Proofs.Ytnmoghmeinhfnaa.Pure
