/- ValidPacket of the program returns what ValidPacket of the reference returns, for every eight integers of 64 bits. -/
import Derived.Test.YtnmoghmeinhfnaaPFnExactValidPacketx0
import Derived.Test.YtnmoghmeinhfnaaPFnExactValidPacketx1
namespace Go.Proofs.Ytnmoghmeinhfnaa.Pure
open Go.RowKit Go.Proofs.Ytnmoghmeinhfnaa.PFnExactValidPacket Go.Proofs.YtnmoghmeinhfnaaW.PrintWords Go.Proofs.YtnmoghmeinhfnaaW.PrintLast Go.Proofs.YtnmoghmeinhfnaaW.PrintMore
set_option linter.unusedVariables false
set_option linter.unusedSimpArgs false
theorem inR (a b c : Int) : spec_inRange.f a b c = some (decide (b ≤ a ∧ a ≤ c)) := by
  unfold spec_inRange.f; by_cases h : b ≤ a <;> simp [h]
theorem wiT (a b c : Int) : impl_within.f a b c = some (decide (b ≤ a ∧ a ≤ c)) := by
  unfold impl_within.f; by_cases h : b ≤ a <;> simp [h]

/-- A valid packet, in numbers. -/
def VP (l m st po sp o r s : Int) : Prop := (0 ≤ l ∧ l ≤ 3) ∧ (0 ≤ m ∧ m ≤ 7) ∧ (0 ≤ st ∧ st ≤ 15) ∧ (0 ≤ po ∧ po ≤ 17) ∧ (0 ≤ sp ∧ sp ≤ 65535) ∧ (0 ≤ o ∧ o ≤ 200000000999999) ∧ (0 ≤ r ∧ r ≤ 200000000999999) ∧ (0 ≤ s ∧ s ≤ 200000000999999)
instance (l m st po sp o r s : Int) : Decidable (VP l m st po sp o r s) := by unfold VP; infer_instance
theorem and_step (p q : Prop) [Decidable p] [Decidable q] (x : Option Bool) (hx : x = some (decide q)) : (if p then x else some false) = some (decide (p ∧ q)) := by
  by_cases h : p <;> simp [h, hx]
theorem svp (l m st po sp o r s : Int) : spec_validPacket.f l m st po sp o r s = some (decide (VP l m st po sp o r s)) := by
  unfold spec_validPacket.f spec_validStamp.f VP
  simp only [inR, Option.bind_some, decide_eq_true_eq]
  repeat (apply and_step)
  rfl
theorem ivp (l m st po sp o r s : Int) : impl_ValidPacket.f l m st po sp o r s = some (decide (VP l m st po sp o r s)) := by
  unfold impl_ValidPacket.f impl_isStamp.f VP
  simp only [wiT, Option.bind_some, decide_eq_true_eq]
  repeat (apply and_step)
  rfl

theorem FnExactValidPacket (l m st po sp o r s : Int) (_ : (Lit.int .i64 l).wf = true) (_ : (Lit.int .i64 m).wf = true) (_ : (Lit.int .i64 st).wf = true) (_ : (Lit.int .i64 po).wf = true) (_ : (Lit.int .i64 sp).wf = true) (_ : (Lit.int .i64 o).wf = true) (_ : (Lit.int .i64 r).wf = true) (_ : (Lit.int .i64 s).wf = true) : laws_FnExactValidPacket.f l m st po sp o r s = some true := by
  simp only [laws_FnExactValidPacket.f, laws_toPacket.f, spec_ValidPacket.f, svp, ivp, Option.bind_some]
  simp

end Go.Proofs.Ytnmoghmeinhfnaa.Pure
