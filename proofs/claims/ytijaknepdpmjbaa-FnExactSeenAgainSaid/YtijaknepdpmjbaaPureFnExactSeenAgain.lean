/- SeenAgain of the program returns what SeenAgain of the reference returns, for every five integers of 64 bits. -/
import Derived.Test.YtijaknepdpmjbaaPFnExactSeenAgainx0
import Derived.Test.YtijaknepdpmjbaaPFnExactSeenAgainx1
namespace Go.Proofs.Ytijaknepdpmjbaa.Pure
open Go.RowKit Go.Proofs.Ytijaknepdpmjbaa.PFnExactSeenAgain Go.Proofs.YtijaknepdpmjbaaW.PrintWords Go.Proofs.YtijaknepdpmjbaaW.PrintLast Go.Proofs.YtijaknepdpmjbaaW.PrintMore
set_option linter.unusedVariables false
set_option linter.unusedSimpArgs false
theorem inR (a b c : Int) : spec_inRange.f a b c = some (decide (b ≤ a ∧ a ≤ c)) := by
  unfold spec_inRange.f; by_cases h : b ≤ a <;> simp [h]
theorem wiT (a b c : Int) : impl_within.f a b c = some (decide (b ≤ a ∧ a ≤ c)) := by
  unfold impl_within.f; by_cases h : b ≤ a <;> simp [h]

/-- A valid state, in numbers. -/
def VS (e w s : Int) : Prop := (0 ≤ e ∧ e ≤ 1000000) ∧ (0 ≤ w ∧ w ≤ 1000) ∧ (0 ≤ s ∧ s ≤ 3786479999)
instance (e w s : Int) : Decidable (VS e w s) := by unfold VS; infer_instance
theorem svs (e w s : Int) : spec_validState.f e w s = some (decide (VS e w s)) := by
  unfold spec_validState.f VS
  simp only [inR, Option.bind_some, decide_eq_true_eq]
  by_cases h1 : 0 ≤ e ∧ e ≤ 1000000 <;> by_cases h2 : 0 ≤ w ∧ w ≤ 1000 <;> by_cases h3 : 0 ≤ s ∧ s ≤ 3786479999 <;> simp [h1, h2, h3]
theorem ivs (e w s : Int) : impl_ValidState.f e w s = some (decide (VS e w s)) := by
  unfold impl_ValidState.f impl_isTime.f VS
  simp only [wiT, Option.bind_some, decide_eq_true_eq]
  by_cases h1 : 0 ≤ e ∧ e ≤ 1000000 <;> by_cases h2 : 0 ≤ w ∧ w ≤ 1000 <;> by_cases h3 : 0 ≤ s ∧ s ≤ 3786479999 <;> simp [h1, h2, h3]

theorem mn_eq (a b : Int) : mn a b = min a b := by unfold mn; omega
theorem mx_eq (a b : Int) : mx a b = max a b := by unfold mx; omega

/-- The error of a state at a time, and -1 where it is not told. -/
def EA (e w s t : Int) : Int := if VS e w s ∧ s ≤ t ∧ t ≤ 3786479999 then min (e + w * (t - s)) 1000000 else -1
theorem mul_bd (w d : Int) (h : 0 ≤ w ∧ w ≤ 1000) (hd : 0 ≤ d ∧ d ≤ 3786479999) : 0 ≤ w * d ∧ w * d ≤ 3786479999000 := by
  have h1 := Int.mul_nonneg h.1 hd.1
  have h2 := Int.mul_le_mul h.2 hd.2 hd.1 (by omega : (0:Int) ≤ 1000)
  omega
theorem ea_wrap (e w s t : Int) (h : VS e w s) (ht : s ≤ t ∧ t ≤ 3786479999) : wrap64 (e + (wrap64 (w * (wrap64 (t - s))))) = e + w * (t - s) := by
  obtain ⟨h1, h2, h3⟩ := h
  have e1 : wrap64 (t - s) = t - s := by unfold wrap64; omega
  have hm := mul_bd w (t - s) h2 (by omega)
  rw [e1]
  generalize w * (t - s) = m at *
  unfold wrap64; omega
theorem ea_s (e w s t : Int) : spec_ErrorAt.f e w s t = some (EA e w s t) := by
  unfold spec_ErrorAt.f spec_errorAt.f EA
  simp only [svs, inR, Option.bind_some, decide_eq_true_eq, mn_eq]
  by_cases h : VS e w s
  · by_cases ht : s ≤ t ∧ t ≤ 3786479999
    · simp only [h, ht, if_true, true_and, and_self, ea_wrap e w s t h ht, Int.min_comm]
    · simp only [h, ht, if_true, true_and, if_false]
  · simp only [h, if_false, false_and]
theorem ea_i (e w s t : Int) : impl_ErrorAt.f e w s t = some (EA e w s t) := by
  unfold impl_ErrorAt.f EA
  simp only [ivs, wiT, Option.bind_some, decide_eq_true_eq, mn_eq]
  by_cases h : VS e w s
  · by_cases ht : s ≤ t ∧ t ≤ 3786479999
    · simp only [h, ht, if_true, true_and, and_self, ea_wrap e w s t h ht]
    · simp only [h, ht, if_true, true_and, if_false]
  · simp only [h, if_false, false_and]

theorem sg_i (e w s t x : Int) : impl_SeenAgain.f e w s t x = some (if ¬ EA e w s t < 0 ∧ 0 ≤ x ∧ x ≤ 1000000 then (min x (EA e w s t), w, t, true) else (0, 0, 0, false)) := by
  unfold impl_SeenAgain.f
  simp only [ea_i, wiT, Option.bind_some, decide_eq_true_eq, mn_eq]
  by_cases h : EA e w s t < 0
  · simp [h]
  · by_cases h2 : 0 ≤ x ∧ x ≤ 1000000 <;> simp [h, h2]
theorem sg_s (e w s t x : Int) : spec_SeenAgain.f e w s t x = some (if ¬ EA e w s t < 0 ∧ 0 ≤ x ∧ x ≤ 1000000 then (min x (EA e w s t), w, t, true) else (0, 0, 0, false)) := by
  unfold spec_SeenAgain.f
  simp only [ea_s, inR, Option.bind_some, decide_eq_true_eq, mn_eq]
  by_cases h : EA e w s t < 0
  · simp [h]
  · by_cases h2 : 0 ≤ x ∧ x ≤ 1000000 <;> simp [h, h2, Int.min_comm]

theorem FnExactSeenAgain (e w s t x : Int) (_ : (Lit.int .i64 e).wf = true) (_ : (Lit.int .i64 w).wf = true) (_ : (Lit.int .i64 s).wf = true) (_ : (Lit.int .i64 t).wf = true) (_ : (Lit.int .i64 x).wf = true) : laws_FnExactSeenAgain.f e w s t x = some true := by
  simp only [laws_FnExactSeenAgain.f, laws_toState.f, sg_s, sg_i, Option.bind_some, laws_eqState.f]
  simp

end Go.Proofs.Ytijaknepdpmjbaa.Pure
