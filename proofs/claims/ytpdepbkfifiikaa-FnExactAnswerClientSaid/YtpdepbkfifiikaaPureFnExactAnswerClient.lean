/- AnswerClient of the program returns what AnswerClient of the reference returns, for every twelve integers of 64 bits. -/
import Derived.Test.YtpdepbkfifiikaaQFnExactAnswerClientx0
import Derived.Test.YtpdepbkfifiikaaQFnExactAnswerClientx1
import Derived.Test.YtpdepbkfifiikaaQFnExactAnswerClientx2
import Derived.Test.YtpdepbkfifiikaaQFnExactAnswerClientx3
namespace Go.Proofs.Ytpdepbkfifiikaa.Pure
open Go.RowKit Go.Proofs.Ytpdepbkfifiikaa.QFnExactAnswerClient Go.Proofs.YtpdepbkfifiikaaW.PrintWords Go.Proofs.YtpdepbkfifiikaaW.PrintLast Go.Proofs.YtpdepbkfifiikaaW.PrintMore
set_option linter.unusedVariables false
set_option linter.unusedSimpArgs false
theorem inR (a b c : Int) : spec_inRange.f a b c = some (decide (b ≤ a ∧ a ≤ c)) := by
  unfold spec_inRange.f; by_cases h : b ≤ a <;> simp [h]
theorem wiT (a b c : Int) : impl_within.f a b c = some (decide (b ≤ a ∧ a ≤ c)) := by
  unfold impl_within.f; by_cases h : b ≤ a <;> simp [h]

/-- A valid packet, in numbers. -/
def VP (l m st po sp o r s : Int) : Prop := (0 ≤ l ∧ l ≤ 3) ∧ (0 ≤ m ∧ m ≤ 7) ∧ (0 ≤ st ∧ st ≤ 15) ∧ (0 ≤ po ∧ po ≤ 17) ∧ (0 ≤ sp ∧ sp ≤ 65535) ∧ (0 ≤ o ∧ o ≤ 200000000999999) ∧ (0 ≤ r ∧ r ≤ 200000000999999) ∧ (0 ≤ s ∧ s ≤ 200000000999999)
instance (l m st po sp o r s : Int) : Decidable (VP l m st po sp o r s) := by unfold VP; infer_instance
theorem and_step (p q : Prop) [Decidable p] [Decidable q] (x : Option Bool) (hx : x = some (decide q)) : (if p then x else some false) = some (decide (p ∧ q)) := by
  by_cases h : p <;> simp [h, hx]
theorem ivp (l m st po sp o r s : Int) : impl_ValidPacket.f l m st po sp o r s = some (decide (VP l m st po sp o r s)) := by
  unfold impl_ValidPacket.f impl_isStamp.f VP
  simp only [wiT, Option.bind_some, decide_eq_true_eq]
  repeat (apply and_step)
  rfl

/-- When a client is answered. -/
def ACok (l m st po sp o r s rc sn le spr : Int) : Prop := VP l m st po sp o r s ∧ m = 3 ∧ (0 ≤ rc ∧ rc ≤ 200000000999999) ∧ (rc ≤ sn ∧ sn ≤ 200000000999999) ∧ (0 ≤ le ∧ le ≤ 2) ∧ (0 ≤ spr ∧ spr ≤ 65535)
instance (l m st po sp o r s rc sn le spr : Int) : Decidable (ACok l m st po sp o r s rc sn le spr) := by unfold ACok; infer_instance
/-- What the client is answered. -/
def ACr (l m st po sp o r s rc sn le spr : Int) : Int × Int × Int × Int × Int × Int × Int × Int × Bool :=
  if ACok l m st po sp o r s rc sn le spr then (if le = 0 then (3, 4, 0, po, spr, s, rc, sn, true) else (0, 4, 1, po, spr, s, rc, sn, true)) else (0, 0, 0, 0, 0, 0, 0, 0, false)
theorem ac_i (k : Nat) (hk : 1 ≤ k) (l m st po sp o r s rc sn le spr : Int) : impl_AnswerClient.f k l m st po sp o r s rc sn le spr = some (ACr l m st po sp o r s rc sn le spr) := by
  obtain ⟨k, rfl⟩ : ∃ m, k = m + 1 := ⟨k - 1, by omega⟩
  unfold impl_AnswerClient.f impl_isStamp.f ACr
  simp only [ivp, wiT, Option.bind_some, decide_eq_true_eq, impl_AnswerClient.j0, if_true]
  by_cases h1 : VP l m st po sp o r s
  · by_cases h2 : m = 3
    · by_cases h3 : 0 ≤ rc ∧ rc ≤ 200000000999999
      · by_cases h4 : rc ≤ sn ∧ sn ≤ 200000000999999
        · by_cases h5 : 0 ≤ le ∧ le ≤ 2
          · by_cases h6 : 0 ≤ spr ∧ spr ≤ 65535
            · rw [if_pos h1, if_pos h2, if_pos h3, if_pos h4, if_pos h5, if_neg (by simp [h6]), if_pos (show ACok l m st po sp o r s rc sn le spr from ⟨h1, h2, h3, h4, h5, h6⟩)]
              by_cases h7 : le = 0
              · rw [if_pos h7, if_pos h7]
              · rw [if_neg h7, if_neg h7]
            · rw [if_pos h1, if_pos h2, if_pos h3, if_pos h4, if_pos h5, if_pos (by simp; omega), if_neg (show ¬ ACok l m st po sp o r s rc sn le spr from fun h => h6 h.2.2.2.2.2)]
          · rw [if_pos h1, if_pos h2, if_pos h3, if_pos h4, if_neg h5, if_neg (show ¬ ACok l m st po sp o r s rc sn le spr from fun h => h5 h.2.2.2.2.1)]
        · rw [if_pos h1, if_pos h2, if_pos h3, if_neg h4, if_neg (show ¬ ACok l m st po sp o r s rc sn le spr from fun h => h4 h.2.2.2.1)]
      · rw [if_pos h1, if_pos h2, if_neg h3, if_neg (show ¬ ACok l m st po sp o r s rc sn le spr from fun h => h3 h.2.2.1)]
    · rw [if_pos h1, if_neg h2, if_neg (show ¬ ACok l m st po sp o r s rc sn le spr from fun h => h2 h.2.1)]
  · rw [if_neg h1, if_neg (show ¬ ACok l m st po sp o r s rc sn le spr from fun h => h1 h.1)]

theorem svp (l m st po sp o r s : Int) : spec_validPacket.f l m st po sp o r s = some (decide (VP l m st po sp o r s)) := by
  unfold spec_validPacket.f spec_validStamp.f VP
  simp only [inR, Option.bind_some, decide_eq_true_eq]
  repeat (apply and_step)
  rfl

theorem ac_s (k : Nat) (hk : 1 ≤ k) (l m st po sp o r s rc sn le spr : Int) : spec_AnswerClient.f k l m st po sp o r s rc sn le spr = some (ACr l m st po sp o r s rc sn le spr) := by
  obtain ⟨k, rfl⟩ : ∃ m, k = m + 1 := ⟨k - 1, by omega⟩
  unfold spec_AnswerClient.f spec_validStamp.f ACr
  simp only [svp, inR, Option.bind_some, decide_eq_true_eq, spec_AnswerClient.j0, if_true]
  by_cases h1 : VP l m st po sp o r s
  · by_cases h2 : m = 3
    · by_cases h3 : 0 ≤ rc ∧ rc ≤ 200000000999999
      · by_cases h4 : rc ≤ sn ∧ sn ≤ 200000000999999
        · by_cases h5 : 0 ≤ le ∧ le ≤ 2
          · by_cases h6 : 0 ≤ spr ∧ spr ≤ 65535
            · rw [if_pos h1, if_pos h2, if_pos h3, if_pos h4, if_pos h5, if_neg (by simp [h6]), if_pos (show ACok l m st po sp o r s rc sn le spr from ⟨h1, h2, h3, h4, h5, h6⟩)]
              by_cases h7 : le = 0
              · rw [if_pos h7, if_pos h7]
              · rw [if_neg h7, if_neg h7]
            · rw [if_pos h1, if_pos h2, if_pos h3, if_pos h4, if_pos h5, if_pos (by simp; omega), if_neg (show ¬ ACok l m st po sp o r s rc sn le spr from fun h => h6 h.2.2.2.2.2)]
          · rw [if_pos h1, if_pos h2, if_pos h3, if_pos h4, if_neg h5, if_neg (show ¬ ACok l m st po sp o r s rc sn le spr from fun h => h5 h.2.2.2.2.1)]
        · rw [if_pos h1, if_pos h2, if_pos h3, if_neg h4, if_neg (show ¬ ACok l m st po sp o r s rc sn le spr from fun h => h4 h.2.2.2.1)]
      · rw [if_pos h1, if_pos h2, if_neg h3, if_neg (show ¬ ACok l m st po sp o r s rc sn le spr from fun h => h3 h.2.2.1)]
    · rw [if_pos h1, if_neg h2, if_neg (show ¬ ACok l m st po sp o r s rc sn le spr from fun h => h2 h.2.1)]
  · rw [if_neg h1, if_neg (show ¬ ACok l m st po sp o r s rc sn le spr from fun h => h1 h.1)]

theorem FnExactAnswerClient (l m st po sp o r s rc sn le spr : Int) (_ : (Lit.int .i64 l).wf = true) (_ : (Lit.int .i64 m).wf = true) (_ : (Lit.int .i64 st).wf = true) (_ : (Lit.int .i64 po).wf = true) (_ : (Lit.int .i64 sp).wf = true) (_ : (Lit.int .i64 o).wf = true) (_ : (Lit.int .i64 r).wf = true) (_ : (Lit.int .i64 s).wf = true) (_ : (Lit.int .i64 rc).wf = true) (_ : (Lit.int .i64 sn).wf = true) (_ : (Lit.int .i64 le).wf = true) (_ : (Lit.int .i64 spr).wf = true) : ∃ k, laws_FnExactAnswerClient.f k l m st po sp o r s rc sn le spr = some true := by
  refine ⟨1, ?_⟩
  simp only [laws_FnExactAnswerClient.f, laws_toPacket.f, ac_s 1 (Nat.le_refl 1), ac_i 1 (Nat.le_refl 1), Option.bind_some, laws_eqPacket.f]
  simp

end Go.Proofs.Ytpdepbkfifiikaa.Pure
