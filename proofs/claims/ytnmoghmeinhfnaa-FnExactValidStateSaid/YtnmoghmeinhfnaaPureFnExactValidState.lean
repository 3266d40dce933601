/- ValidState of the program returns what ValidState of the reference returns, for every three integers of 64 bits. -/
import Derived.Test.YtnmoghmeinhfnaaPFnExactValidStatex0
import Derived.Test.YtnmoghmeinhfnaaPFnExactValidStatex1
namespace Go.Proofs.Ytnmoghmeinhfnaa.Pure
open Go.RowKit Go.Proofs.Ytnmoghmeinhfnaa.PFnExactValidState Go.Proofs.YtnmoghmeinhfnaaW.PrintWords Go.Proofs.YtnmoghmeinhfnaaW.PrintLast Go.Proofs.YtnmoghmeinhfnaaW.PrintMore
set_option linter.unusedVariables false
set_option linter.unusedSimpArgs false
theorem inR (a b c : Int) : spec_inRange.f a b c = some (decide (b ≤ a ∧ a ≤ c)) := by
  unfold spec_inRange.f; by_cases h : b ≤ a <;> simp [h]
theorem wiT (a b c : Int) : impl_within.f a b c = some (decide (b ≤ a ∧ a ≤ c)) := by
  unfold impl_within.f; by_cases h : b ≤ a <;> simp [h]

/-- A valid state, in numbers. -/
def VS (e w s : Int) : Prop := (0 ≤ e ∧ e ≤ 1000000) ∧ (0 ≤ w ∧ w ≤ 1000) ∧ (0 ≤ s ∧ s ≤ 3786479999)
instance (e w s : Int) : Decidable (VS e w s) := by unfold VS; infer_instance
theorem svs (e w s : Int) : spec_validState.f e w s = some (decide (VS e w s)) := by
  unfold spec_validState.f VS
  simp only [inR, Option.bind_some, decide_eq_true_eq]
  by_cases h1 : 0 ≤ e ∧ e ≤ 1000000 <;> by_cases h2 : 0 ≤ w ∧ w ≤ 1000 <;> by_cases h3 : 0 ≤ s ∧ s ≤ 3786479999 <;> simp [h1, h2, h3]
theorem ivs (e w s : Int) : impl_ValidState.f e w s = some (decide (VS e w s)) := by
  unfold impl_ValidState.f impl_isTime.f VS
  simp only [wiT, Option.bind_some, decide_eq_true_eq]
  by_cases h1 : 0 ≤ e ∧ e ≤ 1000000 <;> by_cases h2 : 0 ≤ w ∧ w ≤ 1000 <;> by_cases h3 : 0 ≤ s ∧ s ≤ 3786479999 <;> simp [h1, h2, h3]

theorem FnExactValidState (e w s : Int) (_ : (Lit.int .i64 e).wf = true) (_ : (Lit.int .i64 w).wf = true) (_ : (Lit.int .i64 s).wf = true) : laws_FnExactValidState.f e w s = some true := by
  simp only [laws_FnExactValidState.f, laws_toState.f, spec_ValidState.f, svs, ivs, Option.bind_some]
  simp

end Go.Proofs.Ytnmoghmeinhfnaa.Pure
