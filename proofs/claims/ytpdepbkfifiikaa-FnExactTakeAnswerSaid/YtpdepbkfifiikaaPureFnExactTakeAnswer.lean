/- TakeAnswer of the program returns what TakeAnswer of the reference returns, for every ten integers of 64 bits, in memory that it shares with no other call. -/
import Derived.Test.YtpdepbkfifiikaaPFnExactTakeAnswerx0
import Derived.Test.YtpdepbkfifiikaaPFnExactTakeAnswerx1
import Derived.Test.YtpdepbkfifiikaaPFnExactTakeAnswerx2
namespace Go.Proofs.Ytpdepbkfifiikaa.Pure
open Go.RowKit Go.Proofs.Ytpdepbkfifiikaa.PFnExactTakeAnswer Go.Proofs.YtpdepbkfifiikaaW.PrintWords Go.Proofs.YtpdepbkfifiikaaW.PrintLast Go.Proofs.YtpdepbkfifiikaaW.PrintMore
set_option linter.unusedVariables false
set_option linter.unusedSimpArgs false
theorem inR (a b c : Int) : spec_inRange.f a b c = some (decide (b ≤ a ∧ a ≤ c)) := by
  unfold spec_inRange.f; by_cases h : b ≤ a <;> simp [h]
theorem wiT (a b c : Int) : impl_within.f a b c = some (decide (b ≤ a ∧ a ≤ c)) := by
  unfold impl_within.f; by_cases h : b ≤ a <;> simp [h]

/-- A valid packet, in numbers. -/
def VP (l m st po sp o r s : Int) : Prop := (0 ≤ l ∧ l ≤ 3) ∧ (0 ≤ m ∧ m ≤ 7) ∧ (0 ≤ st ∧ st ≤ 15) ∧ (0 ≤ po ∧ po ≤ 17) ∧ (0 ≤ sp ∧ sp ≤ 65535) ∧ (0 ≤ o ∧ o ≤ 200000000999999) ∧ (0 ≤ r ∧ r ≤ 200000000999999) ∧ (0 ≤ s ∧ s ≤ 200000000999999)
instance (l m st po sp o r s : Int) : Decidable (VP l m st po sp o r s) := by unfold VP; infer_instance
theorem and_step (p q : Prop) [Decidable p] [Decidable q] (x : Option Bool) (hx : x = some (decide q)) : (if p then x else some false) = some (decide (p ∧ q)) := by
  by_cases h : p <;> simp [h, hx]
theorem ivp (l m st po sp o r s : Int) : impl_ValidPacket.f l m st po sp o r s = some (decide (VP l m st po sp o r s)) := by
  unfold impl_ValidPacket.f impl_isStamp.f VP
  simp only [wiT, Option.bind_some, decide_eq_true_eq]
  repeat (apply and_step)
  rfl

/-- When an answer is taken. -/
def TAok (a l m st po sp o r s rc : Int) : Prop := (0 ≤ a ∧ a ≤ 200000000999999) ∧ (0 ≤ rc ∧ rc ≤ 200000000999999) ∧ VP l m st po sp o r s ∧ m = 4 ∧ ¬ st = 0 ∧ ¬ l = 3 ∧ o = a ∧ ¬ s < r
instance (a l m st po sp o r s rc : Int) : Decidable (TAok a l m st po sp o r s rc) := by unfold TAok; infer_instance
theorem ta_i (a l m st po sp o r s rc : Int) : impl_TakeAnswer.f a l m st po sp o r s rc = some (if TAok a l m st po sp o r s rc then ([a, r, s, rc], true) else ([], false)) := by
  unfold impl_TakeAnswer.f impl_isStamp.f
  simp only [ivp, wiT, Option.bind_some, decide_eq_true_eq]
  by_cases h1 : 0 ≤ a ∧ a ≤ 200000000999999
  · by_cases h2 : 0 ≤ rc ∧ rc ≤ 200000000999999
    · by_cases h3 : VP l m st po sp o r s
      · rw [if_pos h1, if_pos h3, if_pos h2]
        by_cases h4 : m = 4
        · by_cases h5 : st = 0
          · rw [if_pos h4, if_pos h5, if_neg (show ¬ TAok a l m st po sp o r s rc from fun h => h.2.2.2.2.1 h5)]
          · by_cases h6 : l = 3
            · rw [if_pos h4, if_neg h5, if_pos h6, if_neg (show ¬ TAok a l m st po sp o r s rc from fun h => h.2.2.2.2.2.1 h6)]
            · by_cases h7 : o = a
              · by_cases h8 : s < r
                · rw [if_pos h4, if_neg h5, if_neg h6, if_pos h7, if_pos h8, if_neg (show ¬ TAok a l m st po sp o r s rc from fun h => h.2.2.2.2.2.2.2 h8)]
                · rw [if_pos h4, if_neg h5, if_neg h6, if_pos h7, if_neg h8, if_pos (show TAok a l m st po sp o r s rc from ⟨h1, h2, h3, h4, h5, h6, h7, h8⟩)]
              · rw [if_pos h4, if_neg h5, if_neg h6, if_neg h7, if_neg (show ¬ TAok a l m st po sp o r s rc from fun h => h7 h.2.2.2.2.2.2.1)]
        · rw [if_neg h4, if_neg (show ¬ TAok a l m st po sp o r s rc from fun h => h4 h.2.2.2.1)]
      · rw [if_pos h1, if_neg h3, if_neg (show ¬ TAok a l m st po sp o r s rc from fun h => h3 h.2.2.1)]
    · by_cases h3 : VP l m st po sp o r s
      · rw [if_pos h1, if_pos h3, if_neg h2, if_neg (show ¬ TAok a l m st po sp o r s rc from fun h => h2 h.2.1)]
      · rw [if_pos h1, if_neg h3, if_neg (show ¬ TAok a l m st po sp o r s rc from fun h => h3 h.2.2.1)]
  · rw [if_neg h1, if_neg (show ¬ TAok a l m st po sp o r s rc from fun h => h1 h.1)]

theorem svp (l m st po sp o r s : Int) : spec_validPacket.f l m st po sp o r s = some (decide (VP l m st po sp o r s)) := by
  unfold spec_validPacket.f spec_validStamp.f VP
  simp only [inR, Option.bind_some, decide_eq_true_eq]
  repeat (apply and_step)
  rfl

theorem ta_s (a l m st po sp o r s rc : Int) : spec_TakeAnswer.f a l m st po sp o r s rc = some (if TAok a l m st po sp o r s rc then ([a, r, s, rc], true) else ([], false)) := by
  unfold spec_TakeAnswer.f spec_validStamp.f
  simp only [svp, inR, Option.bind_some, decide_eq_true_eq]
  by_cases h1 : 0 ≤ a ∧ a ≤ 200000000999999
  · by_cases h2 : 0 ≤ rc ∧ rc ≤ 200000000999999
    · by_cases h3 : VP l m st po sp o r s
      · rw [if_pos h1, if_pos h2, if_pos h3]
        by_cases h4 : m = 4
        · by_cases h5 : st = 0
          · rw [if_pos h4, if_pos h5, if_neg (show ¬ TAok a l m st po sp o r s rc from fun h => h.2.2.2.2.1 h5)]
          · by_cases h6 : l = 3
            · rw [if_pos h4, if_neg h5, if_pos h6, if_neg (show ¬ TAok a l m st po sp o r s rc from fun h => h.2.2.2.2.2.1 h6)]
            · by_cases h7 : o = a
              · by_cases h8 : s < r
                · rw [if_pos h4, if_neg h5, if_neg h6, if_pos h7, if_pos h8, if_neg (show ¬ TAok a l m st po sp o r s rc from fun h => h.2.2.2.2.2.2.2 h8)]
                · rw [if_pos h4, if_neg h5, if_neg h6, if_pos h7, if_neg h8, if_pos (show TAok a l m st po sp o r s rc from ⟨h1, h2, h3, h4, h5, h6, h7, h8⟩)]
              · rw [if_pos h4, if_neg h5, if_neg h6, if_neg h7, if_neg (show ¬ TAok a l m st po sp o r s rc from fun h => h7 h.2.2.2.2.2.2.1)]
        · rw [if_neg h4, if_neg (show ¬ TAok a l m st po sp o r s rc from fun h => h4 h.2.2.2.1)]
      · rw [if_pos h1, if_pos h2, if_neg h3, if_neg (show ¬ TAok a l m st po sp o r s rc from fun h => h3 h.2.2.1)]
    · rw [if_pos h1, if_neg h2, if_neg (show ¬ TAok a l m st po sp o r s rc from fun h => h2 h.2.1)]
  · rw [if_neg h1, if_neg (show ¬ TAok a l m st po sp o r s rc from fun h => h1 h.1)]

theorem w1 : wrap64 1 = 1 := by unfold wrap64; omega
theorem w2 : wrap64 2 = 2 := by unfold wrap64; omega
theorem w3 : wrap64 3 = 3 := by unfold wrap64; omega
theorem w4 : wrap64 4 = 4 := by unfold wrap64; omega
theorem w5 : wrap64 5 = 5 := by unfold wrap64; omega
theorem rd0 (a b c d : Int) : rd [a, b, c, d] 0 = a := rfl
theorem rd1 (a b c d : Int) : rd [a, b, c, d] 1 = b := rfl
theorem rd2 (a b c d : Int) : rd [a, b, c, d] 2 = c := rfl
theorem rd3 (a b c d : Int) : rd [a, b, c, d] 3 = d := rfl
theorem eq4 (k : Nat) (a b c d : Int) : laws_eqIntS.f (k + 5) [a, b, c, d] [a, b, c, d] = some true := by
  simp [laws_eqIntS.f, laws_eqIntS.l0, w1, w2, w3, w4, rd0, rd1, rd2, rd3]
theorem mark4 (k : Nat) (a b c d : Int) : laws_markIntS.f (k + 5) [a, b, c, d] 1 = some (5, [1, 2, 3, 4]) := by
  simp [laws_markIntS.f, laws_markIntS.l0, w1, w2, w3, w4, w5]
theorem held4 (k : Nat) : laws_heldIntS.f (k + 5) [1, 2, 3, 4] 1 = some 5 := by
  simp [laws_heldIntS.f, laws_heldIntS.l0, w1, w2, w3, w4, w5, rd0, rd1, rd2, rd3]
theorem FnExactTakeAnswer (a l m st po sp o r s rc : Int) (_ : (Lit.int .i64 a).wf = true) (_ : (Lit.int .i64 l).wf = true) (_ : (Lit.int .i64 m).wf = true) (_ : (Lit.int .i64 st).wf = true) (_ : (Lit.int .i64 po).wf = true) (_ : (Lit.int .i64 sp).wf = true) (_ : (Lit.int .i64 o).wf = true) (_ : (Lit.int .i64 r).wf = true) (_ : (Lit.int .i64 s).wf = true) (_ : (Lit.int .i64 rc).wf = true) : ∃ k, laws_FnExactTakeAnswer.f k a l m st po sp o r s rc = some true := by
  refine ⟨7, ?_⟩
  simp only [laws_FnExactTakeAnswer.f, laws_toPacket.f, ta_s, ta_i, Option.bind_some, laws_FnExactTakeAnswer.j0, laws_FnExactTakeAnswer.j1]
  by_cases h : TAok a l m st po sp o r s rc
  · rw [if_pos h]
    have e7 : laws_eqIntS.f 7 [a, r, s, rc] [a, r, s, rc] = some true := eq4 2 a r s rc
    have e6 : laws_eqIntS.f 6 [a, r, s, rc] [a, r, s, rc] = some true := eq4 1 a r s rc
    have m6 : laws_markIntS.f 6 [a, r, s, rc] 1 = some (5, [1, 2, 3, 4]) := mark4 1 a r s rc
    have h6 : laws_heldIntS.f 6 [1, 2, 3, 4] 1 = some 5 := held4 1
    have h5 : laws_heldIntS.f 5 [1, 2, 3, 4] 1 = some 5 := held4 0
    simp [e7, e6, m6, h6, h5]
  · rw [if_neg h]
    simp [laws_eqIntS.f, laws_eqIntS.l0, laws_markIntS.f, laws_markIntS.l0, laws_heldIntS.f, laws_heldIntS.l0]

end Go.Proofs.Ytpdepbkfifiikaa.Pure
