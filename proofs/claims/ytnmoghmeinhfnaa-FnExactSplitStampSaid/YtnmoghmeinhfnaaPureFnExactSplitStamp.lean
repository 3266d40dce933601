/- SplitStamp of the program returns what SplitStamp of the reference returns, for every integer of 64 bits. -/
import Derived.Test.YtnmoghmeinhfnaaPFnExactSplitStampx0
import Derived.Test.YtnmoghmeinhfnaaPFnExactSplitStampx1
namespace Go.Proofs.Ytnmoghmeinhfnaa.Pure
open Go.RowKit Go.Proofs.Ytnmoghmeinhfnaa.PFnExactSplitStamp Go.Proofs.YtnmoghmeinhfnaaW.PrintWords Go.Proofs.YtnmoghmeinhfnaaW.PrintLast Go.Proofs.YtnmoghmeinhfnaaW.PrintMore
set_option linter.unusedVariables false
set_option linter.unusedSimpArgs false
theorem inR (a b c : Int) : spec_inRange.f a b c = some (decide (b ≤ a ∧ a ≤ c)) := by
  unfold spec_inRange.f; by_cases h : b ≤ a <;> simp [h]
theorem wiT (a b c : Int) : impl_within.f a b c = some (decide (b ≤ a ∧ a ≤ c)) := by
  unfold impl_within.f; by_cases h : b ≤ a <;> simp [h]

theorem FnExactSplitStamp : laws_FnExactSplitStamp.Pure := by
  intro a _
  simp only [laws_FnExactSplitStamp.f, spec_SplitStamp.f, impl_SplitStamp.f, spec_validStamp.f, impl_isStamp.f, inR, wiT, Option.bind_some, decide_eq_true_eq]
  by_cases h1 : 0 ≤ a ∧ a ≤ 200000000999999 <;> simp [h1]

end Go.Proofs.Ytnmoghmeinhfnaa.Pure
