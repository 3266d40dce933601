/- AskServer of the program returns what AskServer of the reference returns, for every integer of 64 bits. -/
import Derived.Test.YtnmoghmeinhfnaaPFnExactAskServerx0
import Derived.Test.YtnmoghmeinhfnaaPFnExactAskServerx1
namespace Go.Proofs.Ytnmoghmeinhfnaa.Pure
open Go.RowKit Go.Proofs.Ytnmoghmeinhfnaa.PFnExactAskServer Go.Proofs.YtnmoghmeinhfnaaW.PrintWords Go.Proofs.YtnmoghmeinhfnaaW.PrintLast Go.Proofs.YtnmoghmeinhfnaaW.PrintMore
set_option linter.unusedVariables false
set_option linter.unusedSimpArgs false
theorem inR (a b c : Int) : spec_inRange.f a b c = some (decide (b ≤ a ∧ a ≤ c)) := by
  unfold spec_inRange.f; by_cases h : b ≤ a <;> simp [h]
theorem wiT (a b c : Int) : impl_within.f a b c = some (decide (b ≤ a ∧ a ≤ c)) := by
  unfold impl_within.f; by_cases h : b ≤ a <;> simp [h]

theorem FnExactAskServer : laws_FnExactAskServer.Pure := by
  intro a _
  simp only [laws_FnExactAskServer.f, spec_AskServer.f, impl_AskServer.f, spec_validStamp.f, impl_isStamp.f, laws_eqPacket.f, inR, wiT, Option.bind_some, decide_eq_true_eq]
  by_cases h1 : 0 ≤ a ∧ a ≤ 200000000999999 <;> simp [h1]

end Go.Proofs.Ytnmoghmeinhfnaa.Pure
