/- SmearedStamp of the program returns what SmearedStamp of the reference returns, for every two integers of 64 bits. -/
import Derived.Test.YtnmoghmeinhfnaaPFnExactSmearedStampx0
import Derived.Test.YtnmoghmeinhfnaaPFnExactSmearedStampx1
namespace Go.Proofs.Ytnmoghmeinhfnaa.Pure
open Go.RowKit Go.Proofs.Ytnmoghmeinhfnaa.PFnExactSmearedStamp Go.Proofs.YtnmoghmeinhfnaaW.PrintWords Go.Proofs.YtnmoghmeinhfnaaW.PrintLast Go.Proofs.YtnmoghmeinhfnaaW.PrintMore
set_option linter.unusedVariables false
set_option linter.unusedSimpArgs false
theorem inR (a b c : Int) : spec_inRange.f a b c = some (decide (b ≤ a ∧ a ≤ c)) := by
  unfold spec_inRange.f; by_cases h : b ≤ a <;> simp [h]
theorem wiT (a b c : Int) : impl_within.f a b c = some (decide (b ≤ a ∧ a ≤ c)) := by
  unfold impl_within.f; by_cases h : b ≤ a <;> simp [h]

theorem smear_s (a t : Int) (h1 : 86400 ≤ a ∧ a ≤ 3786393599) (h2 : 0 ≤ t ∧ t ≤ 3786479999) :
    spec_smear.f a t = some (((mn (mx (wrap64 (t - (wrap64 (a - 43200)))) 0) 86400) * 1000000) / 86400) := by
  have e1 : wrap64 (a - 43200) = a - 43200 := by unfold wrap64; omega
  have e2 : wrap64 (t - (a - 43200)) = t - (a - 43200) := by unfold wrap64; omega
  unfold spec_smear.f
  rw [e1, e2]
  generalize t - (a - 43200) = n
  unfold mn mx
  by_cases c1 : n ≤ 0
  · rw [if_pos c1]
    have : (if 86400 < (if n < 0 then (0:Int) else n) then (86400:Int) else (if n < 0 then 0 else n)) = 0 := by split <;> split at * <;> omega
    rw [this]; rfl
  · rw [if_neg c1]
    by_cases c2 : n ≥ 86400
    · rw [if_pos c2]
      have : (if 86400 < (if n < 0 then (0:Int) else n) then (86400:Int) else (if n < 0 then 0 else n)) = 86400 := by split <;> split at * <;> omega
      rw [this]; rfl
    · rw [if_neg c2]
      have : (if 86400 < (if n < 0 then (0:Int) else n) then (86400:Int) else (if n < 0 then 0 else n)) = n := by split <;> split at * <;> omega
      rw [this]
      have e3 : wrap64 (1000000 * n) = n * 1000000 := by unfold wrap64; omega
      rw [e3, Int.tdiv_eq_ediv_of_nonneg (by omega)]
      congr 1
      unfold wrap64; omega

theorem FnExactSmearedStamp : laws_FnExactSmearedStamp.Pure := by
  intro a t _ _
  simp only [laws_FnExactSmearedStamp.f, spec_SmearedStamp.f, impl_SmearedStamp.f, impl_SmearAt.f, spec_validLeapTime.f, impl_canSmear.f, impl_isTime.f, inR, wiT, Option.bind_some, decide_eq_true_eq]
  by_cases h1 : 86400 ≤ a ∧ a ≤ 3786393599
  · by_cases h2 : 0 ≤ t ∧ t ≤ 200000000
    · have h3 : 0 ≤ t ∧ t ≤ 3786479999 := by omega
      rw [if_pos h1, if_pos h2, smear_s a t h1 h3]; simp [h1, h2, h3]
    · simp [h1, h2]
  · simp [h1]

end Go.Proofs.Ytnmoghmeinhfnaa.Pure
