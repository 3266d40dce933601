/- HoldUntil of the program returns what HoldUntil of the reference returns, for every three integers of 64 bits. -/
import Derived.Test.YtnmoghmeinhfnaaPFnExactHoldUntilx0
import Derived.Test.YtnmoghmeinhfnaaPFnExactHoldUntilx1
namespace Go.Proofs.Ytnmoghmeinhfnaa.Pure
open Go.RowKit Go.Proofs.Ytnmoghmeinhfnaa.PFnExactHoldUntil Go.Proofs.YtnmoghmeinhfnaaW.PrintWords Go.Proofs.YtnmoghmeinhfnaaW.PrintLast Go.Proofs.YtnmoghmeinhfnaaW.PrintMore
set_option linter.unusedVariables false
set_option linter.unusedSimpArgs false
theorem inR (a b c : Int) : spec_inRange.f a b c = some (decide (b ≤ a ∧ a ≤ c)) := by
  unfold spec_inRange.f; by_cases h : b ≤ a <;> simp [h]
theorem wiT (a b c : Int) : impl_within.f a b c = some (decide (b ≤ a ∧ a ≤ c)) := by
  unfold impl_within.f; by_cases h : b ≤ a <;> simp [h]

/-- A valid state, in numbers. -/
def VS (e w s : Int) : Prop := (0 ≤ e ∧ e ≤ 1000000) ∧ (0 ≤ w ∧ w ≤ 1000) ∧ (0 ≤ s ∧ s ≤ 3786479999)
instance (e w s : Int) : Decidable (VS e w s) := by unfold VS; infer_instance
theorem svs (e w s : Int) : spec_validState.f e w s = some (decide (VS e w s)) := by
  unfold spec_validState.f VS
  simp only [inR, Option.bind_some, decide_eq_true_eq]
  by_cases h1 : 0 ≤ e ∧ e ≤ 1000000 <;> by_cases h2 : 0 ≤ w ∧ w ≤ 1000 <;> by_cases h3 : 0 ≤ s ∧ s ≤ 3786479999 <;> simp [h1, h2, h3]
theorem ivs (e w s : Int) : impl_ValidState.f e w s = some (decide (VS e w s)) := by
  unfold impl_ValidState.f impl_isTime.f VS
  simp only [wiT, Option.bind_some, decide_eq_true_eq]
  by_cases h1 : 0 ≤ e ∧ e ≤ 1000000 <;> by_cases h2 : 0 ≤ w ∧ w ≤ 1000 <;> by_cases h3 : 0 ≤ s ∧ s ≤ 3786479999 <;> simp [h1, h2, h3]

theorem mn_eq (a b : Int) : mn a b = min a b := by unfold mn; omega
theorem mx_eq (a b : Int) : mx a b = max a b := by unfold mx; omega

/-- Until when a state holds, and -1. -/
def HU (e w s : Int) : Int := if VS e w s ∧ e ≤ 100000 then (if w = 0 then 3786479999 else min (s + (100000 - e) / w) 3786479999) else -1
theorem hu_wrap (e w s : Int) (h : VS e w s) (he : e ≤ 100000) (hw : w ≠ 0) : wrap64 (s + (wrap64 (Int.tdiv (wrap64 (100000 - e)) w))) = s + (100000 - e) / w := by
  obtain ⟨h1, h2, h3⟩ := h
  have e1 : wrap64 (100000 - e) = 100000 - e := by unfold wrap64; omega
  rw [e1, Int.tdiv_eq_ediv_of_nonneg (by omega)]
  have d1 : 0 ≤ (100000 - e) / w := Int.ediv_nonneg (by omega) (by omega)
  have d2 : (100000 - e) / w ≤ 100000 - e := Int.ediv_le_self _ (by omega)
  generalize (100000 - e) / w = m at *
  unfold wrap64; omega
theorem hu_s (k : Nat) (hk : 1 ≤ k) (e w s : Int) : spec_HoldUntil.f k e w s = some (HU e w s) := by
  obtain ⟨k, rfl⟩ : ∃ m, k = m + 1 := ⟨k - 1, by omega⟩
  unfold spec_HoldUntil.f HU
  simp only [svs, Option.bind_some, decide_eq_true_eq, mn_eq, spec_HoldUntil.j0]
  by_cases h : VS e w s
  · by_cases he : e ≤ 100000
    · rw [if_pos h, if_neg (show ¬ e > 100000 by omega), if_pos (show VS e w s ∧ e ≤ 100000 from ⟨h, he⟩)]
      by_cases hw : w = 0
      · rw [if_pos hw, if_pos hw]
      · rw [if_neg hw, if_neg hw, hu_wrap e w s h he hw, Int.min_comm]
    · rw [if_pos h, if_pos (show e > 100000 by omega), if_neg (show ¬ (VS e w s ∧ e ≤ 100000) by omega)]
  · rw [if_neg h, if_pos True.intro, if_neg (show ¬ (VS e w s ∧ e ≤ 100000) from fun c => h c.1)]
theorem hu_i (k : Nat) (hk : 1 ≤ k) (e w s : Int) : impl_HoldUntil.f k e w s = some (HU e w s) := by
  obtain ⟨k, rfl⟩ : ∃ m, k = m + 1 := ⟨k - 1, by omega⟩
  unfold impl_HoldUntil.f HU
  simp only [ivs, Option.bind_some, decide_eq_true_eq, mn_eq, impl_HoldUntil.j0]
  by_cases h : VS e w s
  · by_cases he : e ≤ 100000
    · rw [if_pos h, if_neg (show ¬ e > 100000 by omega), if_pos (show VS e w s ∧ e ≤ 100000 from ⟨h, he⟩)]
      by_cases hw : w = 0
      · rw [if_pos hw, if_pos hw]
      · rw [if_neg hw, if_neg hw, hu_wrap e w s h he hw]
    · rw [if_pos h, if_pos (show e > 100000 by omega), if_neg (show ¬ (VS e w s ∧ e ≤ 100000) by omega)]
  · rw [if_neg h, if_pos True.intro, if_neg (show ¬ (VS e w s ∧ e ≤ 100000) from fun c => h c.1)]

theorem FnExactHoldUntil (e w s : Int) (_ : (Lit.int .i64 e).wf = true) (_ : (Lit.int .i64 w).wf = true) (_ : (Lit.int .i64 s).wf = true) : ∃ k, laws_FnExactHoldUntil.f k e w s = some true := by
  refine ⟨1, ?_⟩
  simp only [laws_FnExactHoldUntil.f, laws_toState.f, hu_s 1 (Nat.le_refl 1), hu_i 1 (Nat.le_refl 1), Option.bind_some]
  simp

end Go.Proofs.Ytnmoghmeinhfnaa.Pure
