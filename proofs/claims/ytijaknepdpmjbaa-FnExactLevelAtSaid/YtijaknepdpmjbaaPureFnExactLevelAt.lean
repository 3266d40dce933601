/- LevelAt of the program returns what LevelAt of the reference returns, for every four integers of 64 bits. -/
import Derived.Test.YtijaknepdpmjbaaPFnExactLevelAtx0
import Derived.Test.YtijaknepdpmjbaaPFnExactLevelAtx1
namespace Go.Proofs.Ytijaknepdpmjbaa.Pure
open Go.RowKit Go.Proofs.Ytijaknepdpmjbaa.PFnExactLevelAt Go.Proofs.YtijaknepdpmjbaaW.PrintWords Go.Proofs.YtijaknepdpmjbaaW.PrintLast Go.Proofs.YtijaknepdpmjbaaW.PrintMore
set_option linter.unusedVariables false
set_option linter.unusedSimpArgs false
theorem inR (a b c : Int) : spec_inRange.f a b c = some (decide (b ≤ a ∧ a ≤ c)) := by
  unfold spec_inRange.f; by_cases h : b ≤ a <;> simp [h]
theorem wiT (a b c : Int) : impl_within.f a b c = some (decide (b ≤ a ∧ a ≤ c)) := by
  unfold impl_within.f; by_cases h : b ≤ a <;> simp [h]

/-- A valid state, in numbers. -/
def VS (e w s : Int) : Prop := (0 ≤ e ∧ e ≤ 1000000) ∧ (0 ≤ w ∧ w ≤ 1000) ∧ (0 ≤ s ∧ s ≤ 3786479999)
instance (e w s : Int) : Decidable (VS e w s) := by unfold VS; infer_instance
theorem svs (e w s : Int) : spec_validState.f e w s = some (decide (VS e w s)) := by
  unfold spec_validState.f VS
  simp only [inR, Option.bind_some, decide_eq_true_eq]
  by_cases h1 : 0 ≤ e ∧ e ≤ 1000000 <;> by_cases h2 : 0 ≤ w ∧ w ≤ 1000 <;> by_cases h3 : 0 ≤ s ∧ s ≤ 3786479999 <;> simp [h1, h2, h3]
theorem ivs (e w s : Int) : impl_ValidState.f e w s = some (decide (VS e w s)) := by
  unfold impl_ValidState.f impl_isTime.f VS
  simp only [wiT, Option.bind_some, decide_eq_true_eq]
  by_cases h1 : 0 ≤ e ∧ e ≤ 1000000 <;> by_cases h2 : 0 ≤ w ∧ w ≤ 1000 <;> by_cases h3 : 0 ≤ s ∧ s ≤ 3786479999 <;> simp [h1, h2, h3]

theorem mn_eq (a b : Int) : mn a b = min a b := by unfold mn; omega
theorem mx_eq (a b : Int) : mx a b = max a b := by unfold mx; omega

/-- The error of a state at a time, and -1 where it is not told. -/
def EA (e w s t : Int) : Int := if VS e w s ∧ s ≤ t ∧ t ≤ 3786479999 then min (e + w * (t - s)) 1000000 else -1
theorem mul_bd (w d : Int) (h : 0 ≤ w ∧ w ≤ 1000) (hd : 0 ≤ d ∧ d ≤ 3786479999) : 0 ≤ w * d ∧ w * d ≤ 3786479999000 := by
  have h1 := Int.mul_nonneg h.1 hd.1
  have h2 := Int.mul_le_mul h.2 hd.2 hd.1 (by omega : (0:Int) ≤ 1000)
  omega
theorem ea_wrap (e w s t : Int) (h : VS e w s) (ht : s ≤ t ∧ t ≤ 3786479999) : wrap64 (e + (wrap64 (w * (wrap64 (t - s))))) = e + w * (t - s) := by
  obtain ⟨h1, h2, h3⟩ := h
  have e1 : wrap64 (t - s) = t - s := by unfold wrap64; omega
  have hm := mul_bd w (t - s) h2 (by omega)
  rw [e1]
  generalize w * (t - s) = m at *
  unfold wrap64; omega
theorem ea_s (e w s t : Int) : spec_ErrorAt.f e w s t = some (EA e w s t) := by
  unfold spec_ErrorAt.f spec_errorAt.f EA
  simp only [svs, inR, Option.bind_some, decide_eq_true_eq, mn_eq]
  by_cases h : VS e w s
  · by_cases ht : s ≤ t ∧ t ≤ 3786479999
    · simp only [h, ht, if_true, true_and, and_self, ea_wrap e w s t h ht, Int.min_comm]
    · simp only [h, ht, if_true, true_and, if_false]
  · simp only [h, if_false, false_and]
theorem ea_i (e w s t : Int) : impl_ErrorAt.f e w s t = some (EA e w s t) := by
  unfold impl_ErrorAt.f EA
  simp only [ivs, wiT, Option.bind_some, decide_eq_true_eq, mn_eq]
  by_cases h : VS e w s
  · by_cases ht : s ≤ t ∧ t ≤ 3786479999
    · simp only [h, ht, if_true, true_and, and_self, ea_wrap e w s t h ht]
    · simp only [h, ht, if_true, true_and, if_false]
  · simp only [h, if_false, false_and]

/-- The level of a state at a time, and -1. -/
def LA (e w s t : Int) : Int := if EA e w s t < 0 then -1 else if t ≤ s + 60 ∧ EA e w s t ≤ 1000 then 2 else if EA e w s t ≤ 100000 then 1 else 0
theorem ea_vs {e w s t : Int} (h : ¬ EA e w s t < 0) : VS e w s ∧ s ≤ t ∧ t ≤ 3786479999 := by
  unfold EA at h
  by_cases c : VS e w s ∧ s ≤ t ∧ t ≤ 3786479999
  · exact c
  · rw [if_neg c] at h; omega
theorem la_i (k : Nat) (hk : 1 ≤ k) (e w s t : Int) : impl_LevelAt.f k e w s t = some (LA e w s t) := by
  obtain ⟨k, rfl⟩ : ∃ m, k = m + 1 := ⟨k - 1, by omega⟩
  unfold impl_LevelAt.f LA
  simp only [ea_i, Option.bind_some, impl_LevelAt.j0, decide_eq_true_eq]
  by_cases h : EA e w s t < 0
  · simp only [h, if_true]
  · obtain ⟨⟨v1, v2, v3⟩, ht⟩ := ea_vs h
    have e1 : wrap64 (s + 60) = s + 60 := by unfold wrap64; omega
    rw [if_neg h, if_neg h, e1]
    by_cases h2 : t ≤ s + 60
    · by_cases h3 : EA e w s t ≤ 1000 <;> by_cases h4 : EA e w s t ≤ 100000 <;> simp [h2, h3, h4]
    · by_cases h4 : EA e w s t ≤ 100000 <;> simp [h2, h4]

theorem la_s (k : Nat) (hk : 1 ≤ k) (e w s t : Int) : spec_LevelAt.f k e w s t = some (LA e w s t) := by
  obtain ⟨k, rfl⟩ : ∃ m, k = m + 1 := ⟨k - 1, by omega⟩
  unfold spec_LevelAt.f LA
  simp only [ea_s, Option.bind_some, spec_LevelAt.j0, decide_eq_true_eq]
  by_cases h : EA e w s t < 0
  · simp only [h, if_true]
  · obtain ⟨⟨v1, v2, v3⟩, ht⟩ := ea_vs h
    have e1 : wrap64 (t - s) = t - s := by unfold wrap64; omega
    rw [if_neg h, if_neg h, e1]
    by_cases h2 : t ≤ s + 60
    · have h2' : t - s ≤ 60 := by omega
      by_cases h3 : EA e w s t ≤ 1000 <;> by_cases h4 : EA e w s t ≤ 100000 <;> simp [h2, h2', h3, h4]
    · have h2' : ¬ t - s ≤ 60 := by omega
      by_cases h4 : EA e w s t ≤ 100000 <;> simp [h2, h2', h4]

theorem FnExactLevelAt (e w s t : Int) (_ : (Lit.int .i64 e).wf = true) (_ : (Lit.int .i64 w).wf = true) (_ : (Lit.int .i64 s).wf = true) (_ : (Lit.int .i64 t).wf = true) : ∃ k, laws_FnExactLevelAt.f k e w s t = some true := by
  refine ⟨1, ?_⟩
  simp only [laws_FnExactLevelAt.f, laws_toState.f, la_s 1 (Nat.le_refl 1), la_i 1 (Nat.le_refl 1), Option.bind_some]
  simp

end Go.Proofs.Ytijaknepdpmjbaa.Pure
