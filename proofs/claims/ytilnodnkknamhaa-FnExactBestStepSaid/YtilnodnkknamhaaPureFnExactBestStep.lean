/- BestStep of the program returns what BestStep of the reference returns, for every list of integers, and leaves its argument as it was. -/
import Derived.Test.YtilnodnkknamhaaQFnExactBestStepx0
import Derived.Test.YtilnodnkknamhaaQFnExactBestStepx1
import Derived.Test.YtilnodnkknamhaaQFnExactBestStepx2
import Derived.Test.YtilnodnkknamhaaQFnExactBestStepx3
import Derived.Test.YtilnodnkknamhaaQFnExactBestStepx4
import Derived.Test.YtilnodnkknamhaaWSized
namespace Go.Proofs.Ytilnodnkknamhaa.Pure
open Go.RowKit Go.Proofs.Ytilnodnkknamhaa.QFnExactBestStep Go.Proofs.YtilnodnkknamhaaW.PrintWords Go.Proofs.YtilnodnkknamhaaW.PrintLast Go.Proofs.YtilnodnkknamhaaW.PrintMore
set_option linter.unusedVariables false
set_option linter.unusedSimpArgs false
theorem inR (a b c : Int) : spec_inRange.f a b c = some (decide (b ≤ a ∧ a ≤ c)) := by
  unfold spec_inRange.f; by_cases h : b ≤ a <;> simp [h]
theorem wiT (a b c : Int) : impl_within.f a b c = some (decide (b ≤ a ∧ a ≤ c)) := by
  unfold impl_within.f; by_cases h : b ≤ a <;> simp [h]

theorem rd_at {l : List Int} {i : Nat} (h : i < l.length) : rd l (i : Int) = l[i] := by
  unfold rd
  rw [List.getD_eq_getElem?_getD, Int.toNat_natCast, List.getElem?_eq_getElem h, Option.getD_some]
theorem w_succ {i n : Nat} (h : i < n) (hn : n ≤ 4611686018427387904) : wrap64 ((i : Int) + 1) = ((i + 1 : Nat) : Int) := by
  unfold wrap64; omega

theorem lit_ok (x : Int) : impl_phasesValid_lit1.f x = some (decide (¬ (-1000000 ≤ x ∧ x ≤ 1000000))) := by
  unfold impl_phasesValid_lit1.f impl_isOffset.f
  simp only [wiT, Option.bind_some, decide_not]
theorem idx_ok (l : List Int) (hl : l.length ≤ 4000000) : ∀ (d k i : Nat), i + d = l.length → d < k →
    ∃ r, slices_IndexFunc_int_int.l0 k l (l.length : Int) (i : Int) = some r ∧ (0 ≤ r ↔ ∃ x ∈ l.drop i, ¬ (-1000000 ≤ x ∧ x ≤ 1000000)) := by
  intro d
  induction d with
  | zero =>
    intro k i hi hk
    obtain ⟨k, rfl⟩ : ∃ m, k = m + 1 := ⟨k - 1, by omega⟩
    refine ⟨-1, ?_, ?_⟩
    · simp only [slices_IndexFunc_int_int.l0]; rw [if_neg (by omega)]
    · rw [List.drop_of_length_le (by omega)]; simp
  | succ d ih =>
    intro k i hi hk
    obtain ⟨k, rfl⟩ : ∃ m, k = m + 1 := ⟨k - 1, by omega⟩
    have hlt : i < l.length := by omega
    rw [List.drop_eq_getElem_cons hlt]
    simp only [slices_IndexFunc_int_int.l0, lit_ok, Option.bind_some, decide_eq_true_eq, rd_at hlt]
    rw [if_pos (by omega), if_pos (by omega), if_pos (by omega)]
    by_cases c : ¬ (-1000000 ≤ l[i] ∧ l[i] ≤ 1000000)
    · rw [if_pos c]
      exact ⟨_, rfl, fun _ => ⟨l[i], List.mem_cons_self, c⟩, fun _ => by omega⟩
    · rw [if_neg c, w_succ hlt (by omega)]
      obtain ⟨r, hr, h⟩ := ih k (i + 1) (by omega) (by omega)
      refine ⟨r, hr, h.trans ⟨fun ⟨x, hx, hn⟩ => ⟨x, List.mem_cons_of_mem _ hx, hn⟩, fun ⟨x, hx, hn⟩ => ?_⟩⟩
      rcases List.mem_cons.mp hx with rfl | hx
      · exact absurd hn c
      · exact ⟨x, hx, hn⟩
theorem cf_ok (l : List Int) (hl : l.length ≤ 4000000) (k : Nat) (hk : l.length < k) :
    slices_ContainsFunc_int_int.f k l = some (!decide (∀ x ∈ l, -1000000 ≤ x ∧ x ≤ 1000000)) := by
  obtain ⟨r, hr, h⟩ := idx_ok l hl l.length k 0 (by omega) hk
  unfold slices_ContainsFunc_int_int.f slices_IndexFunc_int_int.f
  rw [show (0 : Int) = ((0 : Nat) : Int) from rfl, hr, Option.bind_some]
  congr 1
  rw [List.drop_zero] at h
  rw [← decide_not, decide_eq_decide]
  refine Iff.trans h ⟨fun ⟨x, hx, hn⟩ ha => hn (ha x hx), fun ha => ?_⟩
  rcases Classical.em (∃ x ∈ l, ¬ (-1000000 ≤ x ∧ x ≤ 1000000)) with hc | hc
  · exact hc
  · exact absurd (fun x hx => Classical.byContradiction fun hn => hc ⟨x, hx, hn⟩) ha

/-- Valid phases. -/
def PV (l : List Int) : Prop := l.length ≤ 16 ∧ ∀ x ∈ l, -1000000 ≤ x ∧ x ≤ 1000000
instance (l : List Int) : Decidable (PV l) := by unfold PV; infer_instance
theorem pv_i (k : Nat) (hk : 17 ≤ k) (l : List Int) : impl_phasesValid.f k l = some (decide (PV l)) := by
  unfold impl_phasesValid.f PV
  by_cases c : l.length ≤ 16
  · rw [if_pos (by omega), cf_ok l (by omega) k (by omega)]
    simp only [Option.bind_some, Bool.not_not, c, true_and]
  · rw [if_neg (by omega)]
    simp only [c, false_and, decide_false]

/-- A second difference. -/
def d2 (l : List Int) (s i : Nat) : Int := l.getD (i + 2 * s) 0 - 2 * l.getD (i + s) 0 + l.getD i 0
/-- All second differences. -/
def D2 (l : List Int) (s : Nat) : List Int := (List.range (l.length - 2 * s)).map (d2 l s)
/-- What SecondDiffs returns. -/
def SDf (l : List Int) (step : Int) : List Int := if PV l ∧ 1 ≤ step ∧ step ≤ 16 then D2 l step.toNat else []
theorem PV.getD {l : List Int} (h : PV l) (i : Nat) : -1000000 ≤ l.getD i 0 ∧ l.getD i 0 ≤ 1000000 := by
  rw [List.getD_eq_getElem?_getD]
  by_cases hi : i < l.length
  · rw [List.getElem?_eq_getElem hi, Option.getD_some]; exact h.2 _ (List.getElem_mem hi)
  · rw [List.getElem?_eq_none (by omega)]; simp
theorem d2_bd {l : List Int} (h : PV l) (s i : Nat) : -4000000 ≤ d2 l s i ∧ d2 l s i ≤ 4000000 := by
  unfold d2
  have h1 := h.getD (i + 2 * s)
  have h2 := h.getD (i + s)
  have h3 := h.getD i
  omega
theorem D2_bd {l : List Int} (h : PV l) (s : Nat) : ∀ x ∈ D2 l s, -4000000 ≤ x ∧ x ≤ 4000000 := by
  intro x hx
  obtain ⟨i, _, rfl⟩ := List.mem_map.mp hx
  exact d2_bd h s i
theorem rd_nat (l : List Int) (i : Nat) : rd l (i : Int) = l.getD i 0 := by unfold rd; rw [Int.toNat_natCast]

/-- The sum of the squares. -/
def sumsq (l : List Int) : Int := l.foldr (fun d a => d * d + a) 0
theorem sq_bd {d : Int} (h : -4000000 ≤ d ∧ d ≤ 4000000) : 0 ≤ d * d ∧ d * d ≤ 16000000000000 := by
  constructor
  · rcases Int.le_total 0 d with h0 | h0
    · exact Int.mul_nonneg h0 h0
    · exact Int.mul_nonneg_of_nonpos_of_nonpos h0 h0
  · have e : (4000000 - d) * (4000000 + d) = 16000000000000 - d * d := by
      rw [Int.sub_mul, Int.mul_add, Int.mul_add, Int.mul_comm d 4000000]; omega
    have := Int.mul_nonneg (show 0 ≤ 4000000 - d by omega) (show 0 ≤ 4000000 + d by omega)
    omega
theorem sumsq_nn (l : List Int) (h : ∀ x ∈ l, -4000000 ≤ x ∧ x ≤ 4000000) : 0 ≤ sumsq l ∧ sumsq l ≤ 16000000000000 * l.length := by
  induction l with
  | nil => simp [sumsq]
  | cons a l ih =>
    have h1 := sq_bd (h a (by simp))
    have h2 := ih (fun x hx => h x (List.mem_cons_of_mem _ hx))
    have e : sumsq (a :: l) = a * a + sumsq l := rfl
    simp only [List.length_cons]
    generalize a * a = q at *
    omega
theorem SDf_bd (l : List Int) (step : Int) : ∀ x ∈ SDf l step, -4000000 ≤ x ∧ x ≤ 4000000 := by
  unfold SDf
  by_cases h : PV l ∧ 1 ≤ step ∧ step ≤ 16
  · rw [if_pos h]; exact D2_bd h.1 _
  · rw [if_neg h]; simp
theorem SDf_len (l : List Int) (step : Int) : (SDf l step).length ≤ 16 := by
  unfold SDf
  by_cases h : PV l ∧ 1 ≤ step ∧ step ≤ 16
  · rw [if_pos h]; have := h.1.1; unfold D2; simp; omega
  · rw [if_neg h]; simp
/-- What DeviationOf returns. -/
def DVf (l : List Int) (step : Int) : Int := if SDf l step = [] then -1 else sumsq (SDf l step) / (2 * ((SDf l step).length : Int))
theorem dev_end (n : Nat) (h1 : 1 ≤ n) (h2 : n ≤ 16) (x : Int) (hx : 0 ≤ x) (hx2 : x ≤ 256000000000000) :
    (if (wrap64 (2 * (n : Int))) = 0 then (none : Option Int) else (some (wrap64 (Int.tdiv x (wrap64 (2 * (n : Int))))))) = some (x / (2 * (n : Int))) := by
  have e : wrap64 (2 * (n : Int)) = 2 * (n : Int) := by unfold wrap64; omega
  rw [e, if_neg (by omega), Int.tdiv_eq_ediv_of_nonneg hx]
  have d1 : 0 ≤ x / (2 * (n : Int)) := Int.ediv_nonneg hx (by omega)
  have d2 : x / (2 * (n : Int)) ≤ x := Int.ediv_le_self _ hx
  congr 1
  generalize x / (2 * (n : Int)) = y at *
  unfold wrap64; omega
theorem sum_step {D : List Int} (hD : ∀ x ∈ D, -4000000 ≤ x ∧ x ≤ 4000000) (hl : D.length ≤ 16) {i : Nat} (hlt : i < D.length) {x : Int} (hx : 0 ≤ x) (hx2 : x ≤ 16000000000000 * i) :
    wrap64 (x + (wrap64 (D[i] * D[i]))) = x + D[i] * D[i] ∧ 0 ≤ x + D[i] * D[i] ∧ x + D[i] * D[i] ≤ 16000000000000 * ((i + 1 : Nat) : Int) := by
  have h1 := sq_bd (hD D[i] (List.getElem_mem hlt))
  generalize D[i] * D[i] = q at *
  refine ⟨?_, by omega, by omega⟩
  unfold wrap64; omega

theorem sdgo_i (l : List Int) (h : PV l) (s : Nat) (hs : 1 ≤ s ∧ s ≤ 16) : ∀ (d k i : Nat) (acc : List Int), i + d = l.length - 2 * s → d < k → acc.length = i →
    impl_SecondDiffs.l0 k l (s : Int) acc (i : Int) = some (acc ++ (List.range' i d).map (d2 l s)) := by
  intro d
  have hl := h.1
  induction d with
  | zero =>
    intro k i acc hi hk ha
    obtain ⟨k, rfl⟩ : ∃ m, k = m + 1 := ⟨k - 1, by omega⟩
    have e1 : wrap64 ((i : Int) + (wrap64 (2 * (s : Int)))) = ((i + 2 * s : Nat) : Int) ∨ ¬ (i ≤ 16) := by
      by_cases c : i ≤ 16
      · left; unfold wrap64; omega
      · right; exact c
    simp only [impl_SecondDiffs.l0]
    rcases e1 with e1 | e1
    · rw [e1, if_neg (by omega)]; simp
    · omega
  | succ d ih =>
    intro k i acc hi hk ha
    obtain ⟨k, rfl⟩ : ∃ m, k = m + 1 := ⟨k - 1, by omega⟩
    have e1 : wrap64 ((i : Int) + (wrap64 (2 * (s : Int)))) = ((i + 2 * s : Nat) : Int) := by unfold wrap64; omega
    have e2 : wrap64 ((i : Int) + (s : Int)) = ((i + s : Nat) : Int) := by unfold wrap64; omega
    have e3 : wrap64 ((i : Int) + 1) = ((i + 1 : Nat) : Int) := by unfold wrap64; omega
    simp only [impl_SecondDiffs.l0, e1, e2, e3, rd_nat]
    rw [if_pos (by omega), if_pos (by omega), if_pos (by omega), if_pos (by omega), if_pos (by omega), if_pos (by omega), if_pos (by omega)]
    have h1 := h.getD (i + 2 * s)
    have h2 := h.getD (i + s)
    have h3 := h.getD i
    have e4 : wrap64 ((wrap64 (l.getD (i + 2 * s) 0 - (wrap64 (2 * l.getD (i + s) 0)))) + l.getD i 0) = d2 l s i := by unfold d2 wrap64; omega
    rw [e4, ih k (i + 1) (acc ++ [d2 l s i]) (by omega) (by omega) (by simp; omega), List.range'_succ, List.map_cons, List.append_assoc]
    rfl
theorem sd_i (k : Nat) (hk : 20 ≤ k) (l : List Int) (step : Int) : impl_SecondDiffs.f k l step = some (SDf l step) := by
  obtain ⟨k, rfl⟩ : ∃ m, k = m + 1 := ⟨k - 1, by omega⟩
  unfold impl_SecondDiffs.f SDf
  simp only [Option.bind_some, pv_i (k + 1) (by omega), wiT, decide_eq_true_eq, impl_SecondDiffs.j0]
  by_cases h : PV l
  · by_cases hs : 1 ≤ step ∧ step ≤ 16
    · obtain ⟨s, rfl⟩ : ∃ s : Nat, step = (s : Int) := ⟨step.toNat, by omega⟩
      rw [if_pos h, if_neg (by simp only [hs, and_self, decide_true]; decide), if_pos ⟨h, hs⟩]
      have := sdgo_i l h s (by omega) (l.length - 2 * s) k 0 [] (by omega) (by have := h.1; omega) rfl
      rw [show (0 : Int) = ((0 : Nat) : Int) from rfl, this, Int.toNat_natCast, List.nil_append, D2, List.range_eq_range']
    · rw [if_pos h, if_pos (by simp only [hs, decide_false]; decide), if_neg (fun q => hs q.2)]
  · rw [if_neg h, if_pos True.intro, if_neg (fun q => h q.1)]

theorem devgo_i (D : List Int) (hD : ∀ x ∈ D, -4000000 ≤ x ∧ x ≤ 4000000) (h1 : 1 ≤ D.length) (hl : D.length ≤ 16) : ∀ (d k i : Nat) (x : Int), i + d = D.length → d < k → 0 ≤ x → x ≤ 16000000000000 * i →
    impl_DeviationOf.l0 k D x D (D.length : Int) (i : Int) = some ((x + sumsq (D.drop i)) / (2 * (D.length : Int))) := by
  intro d
  induction d with
  | zero =>
    intro k i x hi hk hx hx2
    obtain ⟨k, rfl⟩ : ∃ m, k = m + 1 := ⟨k - 1, by omega⟩
    simp only [impl_DeviationOf.l0]
    rw [if_neg (by omega), dev_end D.length h1 hl x hx (by omega), List.drop_of_length_le (by omega), show sumsq [] = 0 from rfl, Int.add_zero]
  | succ d ih =>
    intro k i x hi hk hx hx2
    obtain ⟨k, rfl⟩ : ∃ m, k = m + 1 := ⟨k - 1, by omega⟩
    have hlt : i < D.length := by omega
    obtain ⟨e1, e2, e3⟩ := sum_step hD hl hlt hx hx2
    simp only [impl_DeviationOf.l0, rd_at hlt]
    rw [if_pos (by omega), if_pos (by omega), if_pos (by omega), e1, w_succ hlt (by omega), ih k (i + 1) _ (by omega) (by omega) e2 e3, List.drop_eq_getElem_cons hlt,
      show sumsq (D[i] :: D.drop (i + 1)) = D[i] * D[i] + sumsq (D.drop (i + 1)) from rfl, Int.add_assoc]
theorem dv_i (k : Nat) (hk : 20 ≤ k) (l : List Int) (step : Int) : impl_DeviationOf.f k l step = some (DVf l step) := by
  unfold impl_DeviationOf.f DVf
  rw [sd_i k hk, Option.bind_some]
  by_cases h : SDf l step = []
  · rw [if_pos h, if_pos (by rw [h]; rfl)]
  · have h1 : 1 ≤ (SDf l step).length := List.length_pos_iff.mpr h
    have hl := SDf_len l step
    rw [if_neg h, if_neg (by omega)]
    have := devgo_i (SDf l step) (SDf_bd l step) h1 hl (SDf l step).length k 0 0 (by omega) (by omega) (by omega) (by omega)
    rw [List.drop_zero, Int.zero_add] at this
    exact this

theorem all_go (l : List Int) (hl : l.length ≤ 4000000) (a b : Int) : ∀ (d k i : Nat), i + d = l.length → d < k →
    spec_allIn.l0 k l a b (i : Int) = some (decide (∀ x ∈ l.drop i, a ≤ x ∧ x ≤ b)) := by
  intro d
  induction d with
  | zero =>
    intro k i hi hk
    obtain ⟨k, rfl⟩ : ∃ m, k = m + 1 := ⟨k - 1, by omega⟩
    simp only [spec_allIn.l0]; rw [if_neg (by omega), List.drop_of_length_le (by omega)]; simp
  | succ d ih =>
    intro k i hi hk
    obtain ⟨k, rfl⟩ : ∃ m, k = m + 1 := ⟨k - 1, by omega⟩
    have hlt : i < l.length := by omega
    rw [List.drop_eq_getElem_cons hlt]
    simp only [spec_allIn.l0, inR, Option.bind_some, decide_eq_true_eq, rd_at hlt]
    rw [if_pos (by omega), if_pos (by omega)]
    by_cases c : a ≤ l[i] ∧ l[i] ≤ b
    · rw [if_pos c, w_succ hlt (by omega), ih k (i + 1) (by omega) (by omega)]
      congr 1
      rw [decide_eq_decide]
      refine ⟨fun h x hx => ?_, fun h x hx => h x (List.mem_cons_of_mem _ hx)⟩
      rcases List.mem_cons.mp hx with rfl | hx
      · exact c
      · exact h x hx
    · rw [if_neg c]
      simp only [List.mem_cons, forall_eq_or_imp, c, false_and, decide_false]
theorem all_ok (l : List Int) (hl : l.length ≤ 4000000) (k : Nat) (hk : l.length < k) (a b : Int) :
    spec_allIn.f k l a b = some (decide (∀ x ∈ l, a ≤ x ∧ x ≤ b)) := by
  unfold spec_allIn.f
  have := all_go l hl a b l.length k 0 (by omega) hk
  rwa [List.drop_zero] at this

theorem pv_s (k : Nat) (hk : 17 ≤ k) (l : List Int) : spec_validPhases.f k l = some (decide (PV l)) := by
  unfold spec_validPhases.f PV
  by_cases c : l.length ≤ 16
  · rw [if_pos (by omega), all_ok l (by omega) k (by omega)]
    simp only [Option.bind_some, c, true_and]
  · rw [if_neg (by omega)]
    simp only [c, false_and, decide_false]

theorem sdgo_s (l : List Int) (h : PV l) (s : Nat) (hs : 1 ≤ s ∧ s ≤ 16) : ∀ (d k i : Nat) (acc : List Int), i + d = l.length - 2 * s → d < k → acc.length = i →
    spec_SecondDiffs.l0 k l (s : Int) acc (i : Int) = some (acc ++ (List.range' i d).map (d2 l s)) := by
  intro d
  have hl := h.1
  induction d with
  | zero =>
    intro k i acc hi hk ha
    obtain ⟨k, rfl⟩ : ∃ m, k = m + 1 := ⟨k - 1, by omega⟩
    have e1 : wrap64 ((i : Int) + (wrap64 (2 * (s : Int)))) = ((i + 2 * s : Nat) : Int) ∨ ¬ (i ≤ 16) := by
      by_cases c : i ≤ 16
      · left; unfold wrap64; omega
      · right; exact c
    simp only [spec_SecondDiffs.l0]
    rcases e1 with e1 | e1
    · rw [e1, if_neg (by omega)]; simp
    · omega
  | succ d ih =>
    intro k i acc hi hk ha
    obtain ⟨k, rfl⟩ : ∃ m, k = m + 1 := ⟨k - 1, by omega⟩
    have e1 : wrap64 ((i : Int) + (wrap64 (2 * (s : Int)))) = ((i + 2 * s : Nat) : Int) := by unfold wrap64; omega
    have e2 : wrap64 ((i : Int) + (s : Int)) = ((i + s : Nat) : Int) := by unfold wrap64; omega
    have e3 : wrap64 ((i : Int) + 1) = ((i + 1 : Nat) : Int) := by unfold wrap64; omega
    simp only [spec_SecondDiffs.l0, e1, e2, e3, rd_nat]
    rw [if_pos (by omega), if_pos (by omega), if_pos (by omega), if_pos (by omega), if_pos (by omega), if_pos (by omega), if_pos (by omega)]
    have h1 := h.getD (i + 2 * s)
    have h2 := h.getD (i + s)
    have h3 := h.getD i
    have e4 : wrap64 ((wrap64 (l.getD (i + 2 * s) 0 - (wrap64 (2 * l.getD (i + s) 0)))) + l.getD i 0) = d2 l s i := by unfold d2 wrap64; omega
    rw [e4, ih k (i + 1) (acc ++ [d2 l s i]) (by omega) (by omega) (by simp; omega), List.range'_succ, List.map_cons, List.append_assoc]
    rfl
theorem sd_s (k : Nat) (hk : 20 ≤ k) (l : List Int) (step : Int) : spec_SecondDiffs.f k l step = some (SDf l step) := by
  obtain ⟨k, rfl⟩ : ∃ m, k = m + 1 := ⟨k - 1, by omega⟩
  unfold spec_SecondDiffs.f SDf
  simp only [Option.bind_some, pv_s (k + 1) (by omega), inR, decide_eq_true_eq, spec_SecondDiffs.j0]
  by_cases h : PV l
  · by_cases hs : 1 ≤ step ∧ step ≤ 16
    · obtain ⟨s, rfl⟩ : ∃ s : Nat, step = (s : Int) := ⟨step.toNat, by omega⟩
      rw [if_pos h, if_neg (by simp only [hs, and_self, decide_true]; decide), if_pos ⟨h, hs⟩]
      have := sdgo_s l h s (by omega) (l.length - 2 * s) k 0 [] (by omega) (by have := h.1; omega) rfl
      rw [show (0 : Int) = ((0 : Nat) : Int) from rfl, this, Int.toNat_natCast, List.nil_append, D2, List.range_eq_range']
    · rw [if_pos h, if_pos (by simp only [hs, decide_false]; decide), if_neg (fun q => hs q.2)]
  · rw [if_neg h, if_pos True.intro, if_neg (fun q => h q.1)]

theorem devgo_s (D : List Int) (hD : ∀ x ∈ D, -4000000 ≤ x ∧ x ≤ 4000000) (h1 : 1 ≤ D.length) (hl : D.length ≤ 16) : ∀ (d k i : Nat) (x : Int), i + d = D.length → d < k → 0 ≤ x → x ≤ 16000000000000 * i →
    spec_DeviationOf.l0 k x D (i : Int) = some ((x + sumsq (D.drop i)) / (2 * (D.length : Int))) := by
  intro d
  induction d with
  | zero =>
    intro k i x hi hk hx hx2
    obtain ⟨k, rfl⟩ : ∃ m, k = m + 1 := ⟨k - 1, by omega⟩
    simp only [spec_DeviationOf.l0]
    rw [if_neg (by omega), dev_end D.length h1 hl x hx (by omega), List.drop_of_length_le (by omega), show sumsq [] = 0 from rfl, Int.add_zero]
  | succ d ih =>
    intro k i x hi hk hx hx2
    obtain ⟨k, rfl⟩ : ∃ m, k = m + 1 := ⟨k - 1, by omega⟩
    have hlt : i < D.length := by omega
    obtain ⟨e1, e2, e3⟩ := sum_step hD hl hlt hx hx2
    simp only [spec_DeviationOf.l0, rd_at hlt]
    rw [if_pos (by omega), if_pos (by omega), e1, w_succ hlt (by omega), ih k (i + 1) _ (by omega) (by omega) e2 e3, List.drop_eq_getElem_cons hlt,
      show sumsq (D[i] :: D.drop (i + 1)) = D[i] * D[i] + sumsq (D.drop (i + 1)) from rfl, Int.add_assoc]
theorem dv_s (k : Nat) (hk : 20 ≤ k) (l : List Int) (step : Int) : spec_DeviationOf.f k l step = some (DVf l step) := by
  unfold spec_DeviationOf.f DVf
  rw [sd_s k hk, Option.bind_some]
  by_cases h : SDf l step = []
  · rw [if_pos h, if_pos (by rw [h]; rfl)]
  · have h1 : 1 ≤ (SDf l step).length := List.length_pos_iff.mpr h
    have hl := SDf_len l step
    rw [if_neg h, if_neg (by omega)]
    have := devgo_s (SDf l step) (SDf_bd l step) h1 hl (SDf l step).length k 0 0 (by omega) (by omega) (by omega) (by omega)
    rw [List.drop_zero, Int.zero_add] at this
    exact this

theorem DVf_bd (l : List Int) (step : Int) : -1 ≤ DVf l step ∧ DVf l step ≤ 256000000000000 := by
  unfold DVf
  by_cases h : SDf l step = []
  · rw [if_pos h]; omega
  · rw [if_neg h]
    have h1 : 1 ≤ (SDf l step).length := List.length_pos_iff.mpr h
    have hl := SDf_len l step
    have hs := sumsq_nn _ (SDf_bd l step)
    have d1 : 0 ≤ sumsq (SDf l step) / (2 * ((SDf l step).length : Int)) := Int.ediv_nonneg hs.1 (by omega)
    have d2 : sumsq (SDf l step) / (2 * ((SDf l step).length : Int)) ≤ sumsq (SDf l step) := Int.ediv_le_self _ hs.1
    omega
/-- The best step, from a step on, with the best one so far. -/
def BSgo (l : List Int) : Nat → Int → Int → Int → Int
  | 0, best, _, _ => best
  | n + 1, best, least, step =>
    if DVf l step < 0 then BSgo l n best least (step + 1)
    else if best = 0 ∨ DVf l step / (step * step) < least then BSgo l n step (DVf l step / (step * step)) (step + 1)
    else BSgo l n best least (step + 1)
/-- What BestStep returns. -/
def BSf (l : List Int) : Int := BSgo l 16 0 0 1
theorem sq_step {s : Int} (h : 1 ≤ s ∧ s ≤ 16) : wrap64 (s * s) = s * s ∧ 1 ≤ s * s ∧ s * s ≤ 256 := by
  have h1 : 0 ≤ (s - 1) * (s + 1) := Int.mul_nonneg (by omega) (by omega)
  have h2 : 0 ≤ (16 - s) * (16 + s) := Int.mul_nonneg (by omega) (by omega)
  have e1 : (s - 1) * (s + 1) = s * s - 1 := by rw [Int.sub_mul, Int.mul_add, Int.mul_one, Int.one_mul]; omega
  have e2 : (16 - s) * (16 + s) = 256 - s * s := by rw [Int.sub_mul, Int.mul_add, Int.mul_add, Int.mul_comm s 16]; omega
  have h3 : 1 ≤ s * s := by omega
  have h4 : s * s ≤ 256 := by omega
  refine ⟨?_, h3, h4⟩
  generalize s * s = q at *
  unfold wrap64; omega
theorem quo_step {v s : Int} (hv : 0 ≤ v ∧ v ≤ 256000000000000) (h : 1 ≤ s * s) : wrap64 (Int.tdiv v (s * s)) = v / (s * s) := by
  rw [Int.tdiv_eq_ediv_of_nonneg hv.1]
  have d1 : 0 ≤ v / (s * s) := Int.ediv_nonneg hv.1 (by omega)
  have d2 : v / (s * s) ≤ v := Int.ediv_le_self _ hv.1
  generalize v / (s * s) = q at *
  unfold wrap64; omega
theorem bsgo_i (l : List Int) : ∀ (n k : Nat) (b e s : Int), s + n = 17 → 1 ≤ s → n + 20 < k → impl_BestStep.l0 k l b e s = some (BSgo l n b e s) := by
  intro n
  induction n with
  | zero =>
    intro k b e s hs h1 hk
    obtain ⟨k, rfl⟩ : ∃ m, k = m + 1 := ⟨k - 1, by omega⟩
    simp only [impl_BestStep.l0, BSgo]; rw [if_neg (by omega)]
  | succ n ih =>
    intro k b e s hs h1 hk
    obtain ⟨k, rfl⟩ : ∃ m, k = m + 1 := ⟨k - 1, by omega⟩
    obtain ⟨q1, q2, q3⟩ := sq_step (s := s) (by omega)
    have w1 : wrap64 (s + 1) = s + 1 := by unfold wrap64; omega
    simp only [impl_BestStep.l0, BSgo, dv_i k (by omega), Option.bind_some, q1, w1]
    rw [if_pos (by omega)]
    by_cases c : DVf l s < 0
    · rw [if_pos c, if_pos c, ih k b e (s + 1) (by omega) (by omega) (by omega)]
    · have hb := DVf_bd l s
      rw [if_neg c, if_neg c, if_neg (by omega), quo_step (by omega) q2]
      by_cases c2 : b = 0
      · rw [if_pos c2, if_pos (Or.inl c2), ih k _ _ (s + 1) (by omega) (by omega) (by omega)]
      · rw [if_neg c2]
        by_cases c3 : DVf l s / (s * s) < e
        · rw [if_pos c3, if_pos (Or.inr c3), ih k _ _ (s + 1) (by omega) (by omega) (by omega)]
        · rw [if_neg c3, if_neg (by rintro (q | q); exact c2 q; exact c3 q), ih k _ _ (s + 1) (by omega) (by omega) (by omega)]
theorem bsgo_s (l : List Int) : ∀ (n k : Nat) (b e s : Int), s + n = 17 → 1 ≤ s → n + 20 < k → spec_BestStep.l0 k l b e s = some (BSgo l n b e s) := by
  intro n
  induction n with
  | zero =>
    intro k b e s hs h1 hk
    obtain ⟨k, rfl⟩ : ∃ m, k = m + 1 := ⟨k - 1, by omega⟩
    simp only [spec_BestStep.l0, BSgo]; rw [if_neg (by omega)]
  | succ n ih =>
    intro k b e s hs h1 hk
    obtain ⟨k, rfl⟩ : ∃ m, k = m + 1 := ⟨k - 1, by omega⟩
    obtain ⟨q1, q2, q3⟩ := sq_step (s := s) (by omega)
    have w1 : wrap64 (s + 1) = s + 1 := by unfold wrap64; omega
    simp only [spec_BestStep.l0, BSgo, dv_s k (by omega), Option.bind_some, q1, w1]
    rw [if_pos (by omega)]
    by_cases c : DVf l s < 0
    · rw [if_neg (by omega), if_pos c, ih k b e (s + 1) (by omega) (by omega) (by omega)]
    · have hb := DVf_bd l s
      rw [if_pos (by omega), if_neg c, quo_step (by omega) q2]
      by_cases c2 : b = 0
      · rw [if_pos c2, if_neg (by omega), if_pos (Or.inl c2), ih k _ _ (s + 1) (by omega) (by omega) (by omega)]
      · rw [if_neg c2, if_neg (by omega)]
        by_cases c3 : DVf l s / (s * s) < e
        · rw [if_pos c3, if_pos (Or.inr c3), ih k _ _ (s + 1) (by omega) (by omega) (by omega)]
        · rw [if_neg c3, if_neg (by rintro (q | q); exact c2 q; exact c3 q), ih k _ _ (s + 1) (by omega) (by omega) (by omega)]
theorem bs_i (k : Nat) (hk : 40 ≤ k) (l : List Int) : impl_BestStep.f k l = some (BSf l) := by
  unfold impl_BestStep.f BSf; exact bsgo_i l 16 k 0 0 1 (by omega) (by omega) (by omega)
theorem bs_s (k : Nat) (hk : 40 ≤ k) (l : List Int) : spec_BestStep.f k l = some (BSf l) := by
  unfold spec_BestStep.f BSf; exact bsgo_s l 16 k 0 0 1 (by omega) (by omega) (by omega)

theorem toIntS_go (l : List Int) (hl : l.length ≤ 4000000) : ∀ (d k i : Nat) (R : List Int), i + d = l.length → d < k → R.length = d → laws_toIntS.l0 k l (l.take i ++ R) (i : Int) = some l := by
  intro d
  induction d with
  | zero =>
    intro k i R hi hk hR
    obtain ⟨k, rfl⟩ : ∃ m, k = m + 1 := ⟨k - 1, by omega⟩
    obtain rfl := List.eq_nil_of_length_eq_zero hR
    simp only [laws_toIntS.l0]; rw [if_neg (by omega), List.append_nil, List.take_of_length_le (by omega)]
  | succ d ih =>
    intro k i R hi hk hR
    obtain ⟨k, rfl⟩ : ∃ m, k = m + 1 := ⟨k - 1, by omega⟩
    have hlt : i < l.length := by omega
    match R, hR with
    | r :: R, hR =>
      have hR : R.length = d := by simpa using hR
      have hX : (l.take i ++ r :: R).length = l.length := by simp; omega
      have hs : (l.take i ++ r :: R).set i l[i] = l.take (i + 1) ++ R := by
        rw [List.set_append_right _ _ (by simp; omega), show i - (l.take i).length = 0 by simp; omega, List.set_cons_zero, ← List.take_append_getElem hlt, List.append_assoc]; rfl
      simp only [laws_toIntS.l0, rd_at hlt]
      rw [if_pos (by omega), if_pos (by omega), if_pos (by rw [hX]; omega), Int.toNat_natCast, hs, w_succ hlt (by omega), ih k (i + 1) R (by omega) (by omega) hR]
theorem toIntS_ok (l : List Int) (hl : l.length ≤ 4000000) (k : Nat) (hk : l.length < k) : laws_toIntS.f k l = some l := by
  unfold laws_toIntS.f
  rw [if_pos (by omega), if_pos (by omega)]
  exact toIntS_go l hl l.length k 0 _ (by omega) hk (by simp)

theorem eqIntS_go (l : List Int) (hl : l.length ≤ 4000000) : ∀ (d k i : Nat), i + d = l.length → d < k → laws_eqIntS.l0 k l l (i : Int) = some true := by
  intro d
  induction d with
  | zero =>
    intro k i hi hk
    obtain ⟨k, rfl⟩ : ∃ m, k = m + 1 := ⟨k - 1, by omega⟩
    simp only [laws_eqIntS.l0]; rw [if_neg (by omega)]
  | succ d ih =>
    intro k i hi hk
    obtain ⟨k, rfl⟩ : ∃ m, k = m + 1 := ⟨k - 1, by omega⟩
    have hlt : i < l.length := by omega
    simp only [laws_eqIntS.l0, if_true]
    rw [if_pos (by omega), if_pos (by omega), if_pos (by omega), w_succ hlt (by omega), ih k (i + 1) (by omega) (by omega)]
theorem eqIntS_refl (l : List Int) (hl : l.length ≤ 4000000) (k : Nat) (hk : l.length < k) : laws_eqIntS.f k l l = some true := by
  unfold laws_eqIntS.f
  rw [if_pos rfl]
  exact eqIntS_go l hl l.length k 0 (by omega) hk

theorem FnExactBestStep : laws_FnExactBestStep.Pure := by
  intro l _ _ hw
  refine ⟨l.length + 60, ?_⟩
  unfold laws_FnExactBestStep.f
  by_cases c : (l.length : Int) > 1048576
  · rw [if_pos c]
  · rw [if_neg c, toIntS_ok l (by omega) _ (by omega)]
    simp only [Option.bind_some, bs_i (l.length + 60) (by omega), bs_s (l.length + 60) (by omega), if_true, eqIntS_refl l (by omega) (l.length + 60) (by omega)]

end Go.Proofs.Ytilnodnkknamhaa.Pure
namespace Go.Proofs.Ytilnodnkknamhaa.PrintWords
/-- Under this name the row asks for it. -/
theorem sized_ints {H : Type} {enc : TypeId × Value → H} {P : Program} {W : World} {base : Nat} {spare : Nat → Bool} {held : Bool} {t e : TypeId} {k : IntKind} {a : Option Addr} {len cap : Nat} {d : DataW H} {ps : List MemPlace} {ts : List TypeId} {ds : List (DataW H)} {j : Nat}
    (hsz : (DataW.weightsEach P ts ds).all (· ≤ reachBytes) = true) (ht : ts[j]? = some t) (hd : ds[j]? = some d) (hu : P.underlying t = some (.slice e)) (he : P.underlying e = some (.int k)) (hc : P.cellsOf e = 1) {B : Nat} (hB : P.bytesOf e = B)
    (h : DataW.Trod enc P W base spare held t (.slice a len cap) d ps) : len * B ≤ 140737488351232 :=
  Go.Proofs.YtilnodnkknamhaaW.PrintWords.sized_ints hsz ht hd hu he hc hB h
end Go.Proofs.Ytilnodnkknamhaa.PrintWords
