/- For every list of bytes: of the phases that are drawn from it, SecondDiffs in reverse order are the same numbers in reverse order, as the law says. -/
import Derived.Test.YtjjdlocdcigfbaaQFnSecondDiffsTurnx0
import Derived.Test.YtjjdlocdcigfbaaQFnSecondDiffsTurnx1
import Derived.Test.YtjjdlocdcigfbaaQFnSecondDiffsTurnx2
import Derived.Test.YtjjdlocdcigfbaaQFnSecondDiffsTurnx3
import Derived.Test.YtjjdlocdcigfbaaQFnSecondDiffsTurnx4
import Derived.Test.YtjjdlocdcigfbaaWSized
namespace Go.Proofs.Ytjjdlocdcigfbaa.Pure
open Go.RowKit Go.Proofs.Ytjjdlocdcigfbaa.QFnSecondDiffsTurn Go.Proofs.YtjjdlocdcigfbaaW.PrintWords Go.Proofs.YtjjdlocdcigfbaaW.PrintLast Go.Proofs.YtjjdlocdcigfbaaW.PrintMore
set_option linter.unusedVariables false
set_option linter.unusedSimpArgs false
theorem inR (a b c : Int) : spec_inRange.f a b c = some (decide (b ≤ a ∧ a ≤ c)) := by
  unfold spec_inRange.f; by_cases h : b ≤ a <;> simp [h]
theorem wiT (a b c : Int) : impl_within.f a b c = some (decide (b ≤ a ∧ a ≤ c)) := by
  unfold impl_within.f; by_cases h : b ≤ a <;> simp [h]

theorem rd_at {l : List Int} {i : Nat} (h : i < l.length) : rd l (i : Int) = l[i] := by
  unfold rd
  rw [List.getD_eq_getElem?_getD, Int.toNat_natCast, List.getElem?_eq_getElem h, Option.getD_some]
theorem w_succ {i n : Nat} (h : i < n) (hn : n ≤ 4611686018427387904) : wrap64 ((i : Int) + 1) = ((i + 1 : Nat) : Int) := by
  unfold wrap64; omega

theorem lit_ok (x : Int) : impl_phasesValid_lit1.f x = some (decide (¬ (-1000000 ≤ x ∧ x ≤ 1000000))) := by
  unfold impl_phasesValid_lit1.f impl_isOffset.f
  simp only [wiT, Option.bind_some, decide_not]
theorem idx_ok (l : List Int) (hl : l.length ≤ 4000000) : ∀ (d k i : Nat), i + d = l.length → d < k →
    ∃ r, slices_IndexFunc_int_int.l0 k l (l.length : Int) (i : Int) = some r ∧ (0 ≤ r ↔ ∃ x ∈ l.drop i, ¬ (-1000000 ≤ x ∧ x ≤ 1000000)) := by
  intro d
  induction d with
  | zero =>
    intro k i hi hk
    obtain ⟨k, rfl⟩ : ∃ m, k = m + 1 := ⟨k - 1, by omega⟩
    refine ⟨-1, ?_, ?_⟩
    · simp only [slices_IndexFunc_int_int.l0]; rw [if_neg (by omega)]
    · rw [List.drop_of_length_le (by omega)]; simp
  | succ d ih =>
    intro k i hi hk
    obtain ⟨k, rfl⟩ : ∃ m, k = m + 1 := ⟨k - 1, by omega⟩
    have hlt : i < l.length := by omega
    rw [List.drop_eq_getElem_cons hlt]
    simp only [slices_IndexFunc_int_int.l0, lit_ok, Option.bind_some, decide_eq_true_eq, rd_at hlt]
    rw [if_pos (by omega), if_pos (by omega), if_pos (by omega)]
    by_cases c : ¬ (-1000000 ≤ l[i] ∧ l[i] ≤ 1000000)
    · rw [if_pos c]
      exact ⟨_, rfl, fun _ => ⟨l[i], List.mem_cons_self, c⟩, fun _ => by omega⟩
    · rw [if_neg c, w_succ hlt (by omega)]
      obtain ⟨r, hr, h⟩ := ih k (i + 1) (by omega) (by omega)
      refine ⟨r, hr, h.trans ⟨fun ⟨x, hx, hn⟩ => ⟨x, List.mem_cons_of_mem _ hx, hn⟩, fun ⟨x, hx, hn⟩ => ?_⟩⟩
      rcases List.mem_cons.mp hx with rfl | hx
      · exact absurd hn c
      · exact ⟨x, hx, hn⟩
theorem cf_ok (l : List Int) (hl : l.length ≤ 4000000) (k : Nat) (hk : l.length < k) :
    slices_ContainsFunc_int_int.f k l = some (!decide (∀ x ∈ l, -1000000 ≤ x ∧ x ≤ 1000000)) := by
  obtain ⟨r, hr, h⟩ := idx_ok l hl l.length k 0 (by omega) hk
  unfold slices_ContainsFunc_int_int.f slices_IndexFunc_int_int.f
  rw [show (0 : Int) = ((0 : Nat) : Int) from rfl, hr, Option.bind_some]
  congr 1
  rw [List.drop_zero] at h
  rw [← decide_not, decide_eq_decide]
  refine Iff.trans h ⟨fun ⟨x, hx, hn⟩ ha => hn (ha x hx), fun ha => ?_⟩
  rcases Classical.em (∃ x ∈ l, ¬ (-1000000 ≤ x ∧ x ≤ 1000000)) with hc | hc
  · exact hc
  · exact absurd (fun x hx => Classical.byContradiction fun hn => hc ⟨x, hx, hn⟩) ha

/-- Valid phases. -/
def PV (l : List Int) : Prop := l.length ≤ 16 ∧ ∀ x ∈ l, -1000000 ≤ x ∧ x ≤ 1000000
instance (l : List Int) : Decidable (PV l) := by unfold PV; infer_instance
theorem pv_i (k : Nat) (hk : 17 ≤ k) (l : List Int) : impl_phasesValid.f k l = some (decide (PV l)) := by
  unfold impl_phasesValid.f PV
  by_cases c : l.length ≤ 16
  · rw [if_pos (by omega), cf_ok l (by omega) k (by omega)]
    simp only [Option.bind_some, Bool.not_not, c, true_and]
  · rw [if_neg (by omega)]
    simp only [c, false_and, decide_false]

/-- A second difference. -/
def d2 (l : List Int) (s i : Nat) : Int := l.getD (i + 2 * s) 0 - 2 * l.getD (i + s) 0 + l.getD i 0
/-- All second differences. -/
def D2 (l : List Int) (s : Nat) : List Int := (List.range (l.length - 2 * s)).map (d2 l s)
/-- What SecondDiffs returns. -/
def SDf (l : List Int) (step : Int) : List Int := if PV l ∧ 1 ≤ step ∧ step ≤ 16 then D2 l step.toNat else []
theorem PV.getD {l : List Int} (h : PV l) (i : Nat) : -1000000 ≤ l.getD i 0 ∧ l.getD i 0 ≤ 1000000 := by
  rw [List.getD_eq_getElem?_getD]
  by_cases hi : i < l.length
  · rw [List.getElem?_eq_getElem hi, Option.getD_some]; exact h.2 _ (List.getElem_mem hi)
  · rw [List.getElem?_eq_none (by omega)]; simp
theorem d2_bd {l : List Int} (h : PV l) (s i : Nat) : -4000000 ≤ d2 l s i ∧ d2 l s i ≤ 4000000 := by
  unfold d2
  have h1 := h.getD (i + 2 * s)
  have h2 := h.getD (i + s)
  have h3 := h.getD i
  omega
theorem D2_bd {l : List Int} (h : PV l) (s : Nat) : ∀ x ∈ D2 l s, -4000000 ≤ x ∧ x ≤ 4000000 := by
  intro x hx
  obtain ⟨i, _, rfl⟩ := List.mem_map.mp hx
  exact d2_bd h s i
theorem rd_nat (l : List Int) (i : Nat) : rd l (i : Int) = l.getD i 0 := by unfold rd; rw [Int.toNat_natCast]
theorem SDf_len (l : List Int) (step : Int) : (SDf l step).length ≤ 16 := by
  unfold SDf
  by_cases h : PV l ∧ 1 ≤ step ∧ step ≤ 16
  · rw [if_pos h]; have := h.1.1; unfold D2; simp; omega
  · rw [if_neg h]; simp

theorem sdgo_i (l : List Int) (h : PV l) (s : Nat) (hs : 1 ≤ s ∧ s ≤ 16) : ∀ (d k i : Nat) (acc : List Int), i + d = l.length - 2 * s → d < k → acc.length = i →
    impl_SecondDiffs.l0 k l (s : Int) acc (i : Int) = some (acc ++ (List.range' i d).map (d2 l s)) := by
  intro d
  have hl := h.1
  induction d with
  | zero =>
    intro k i acc hi hk ha
    obtain ⟨k, rfl⟩ : ∃ m, k = m + 1 := ⟨k - 1, by omega⟩
    have e1 : wrap64 ((i : Int) + (wrap64 (2 * (s : Int)))) = ((i + 2 * s : Nat) : Int) ∨ ¬ (i ≤ 16) := by
      by_cases c : i ≤ 16
      · left; unfold wrap64; omega
      · right; exact c
    simp only [impl_SecondDiffs.l0]
    rcases e1 with e1 | e1
    · rw [e1, if_neg (by omega)]; simp
    · omega
  | succ d ih =>
    intro k i acc hi hk ha
    obtain ⟨k, rfl⟩ : ∃ m, k = m + 1 := ⟨k - 1, by omega⟩
    have e1 : wrap64 ((i : Int) + (wrap64 (2 * (s : Int)))) = ((i + 2 * s : Nat) : Int) := by unfold wrap64; omega
    have e2 : wrap64 ((i : Int) + (s : Int)) = ((i + s : Nat) : Int) := by unfold wrap64; omega
    have e3 : wrap64 ((i : Int) + 1) = ((i + 1 : Nat) : Int) := by unfold wrap64; omega
    simp only [impl_SecondDiffs.l0, e1, e2, e3, rd_nat]
    rw [if_pos (by omega), if_pos (by omega), if_pos (by omega), if_pos (by omega), if_pos (by omega), if_pos (by omega), if_pos (by omega)]
    have h1 := h.getD (i + 2 * s)
    have h2 := h.getD (i + s)
    have h3 := h.getD i
    have e4 : wrap64 ((wrap64 (l.getD (i + 2 * s) 0 - (wrap64 (2 * l.getD (i + s) 0)))) + l.getD i 0) = d2 l s i := by unfold d2 wrap64; omega
    rw [e4, ih k (i + 1) (acc ++ [d2 l s i]) (by omega) (by omega) (by simp; omega), List.range'_succ, List.map_cons, List.append_assoc]
    rfl
theorem sd_i (k : Nat) (hk : 20 ≤ k) (l : List Int) (step : Int) : impl_SecondDiffs.f k l step = some (SDf l step) := by
  obtain ⟨k, rfl⟩ : ∃ m, k = m + 1 := ⟨k - 1, by omega⟩
  unfold impl_SecondDiffs.f SDf
  simp only [Option.bind_some, pv_i (k + 1) (by omega), wiT, decide_eq_true_eq, impl_SecondDiffs.j0]
  by_cases h : PV l
  · by_cases hs : 1 ≤ step ∧ step ≤ 16
    · obtain ⟨s, rfl⟩ : ∃ s : Nat, step = (s : Int) := ⟨step.toNat, by omega⟩
      rw [if_pos h, if_neg (by simp only [hs, and_self, decide_true]; decide), if_pos ⟨h, hs⟩]
      have := sdgo_i l h s (by omega) (l.length - 2 * s) k 0 [] (by omega) (by have := h.1; omega) rfl
      rw [show (0 : Int) = ((0 : Nat) : Int) from rfl, this, Int.toNat_natCast, List.nil_append, D2, List.range_eq_range']
    · rw [if_pos h, if_pos (by simp only [hs, decide_false]; decide), if_neg (fun q => hs q.2)]
  · rw [if_neg h, if_pos True.intro, if_neg (fun q => h q.1)]

theorem all_go (l : List Int) (hl : l.length ≤ 4000000) (a b : Int) : ∀ (d k i : Nat), i + d = l.length → d < k →
    spec_allIn.l0 k l a b (i : Int) = some (decide (∀ x ∈ l.drop i, a ≤ x ∧ x ≤ b)) := by
  intro d
  induction d with
  | zero =>
    intro k i hi hk
    obtain ⟨k, rfl⟩ : ∃ m, k = m + 1 := ⟨k - 1, by omega⟩
    simp only [spec_allIn.l0]; rw [if_neg (by omega), List.drop_of_length_le (by omega)]; simp
  | succ d ih =>
    intro k i hi hk
    obtain ⟨k, rfl⟩ : ∃ m, k = m + 1 := ⟨k - 1, by omega⟩
    have hlt : i < l.length := by omega
    rw [List.drop_eq_getElem_cons hlt]
    simp only [spec_allIn.l0, inR, Option.bind_some, decide_eq_true_eq, rd_at hlt]
    rw [if_pos (by omega), if_pos (by omega)]
    by_cases c : a ≤ l[i] ∧ l[i] ≤ b
    · rw [if_pos c, w_succ hlt (by omega), ih k (i + 1) (by omega) (by omega)]
      congr 1
      rw [decide_eq_decide]
      refine ⟨fun h x hx => ?_, fun h x hx => h x (List.mem_cons_of_mem _ hx)⟩
      rcases List.mem_cons.mp hx with rfl | hx
      · exact c
      · exact h x hx
    · rw [if_neg c]
      simp only [List.mem_cons, forall_eq_or_imp, c, false_and, decide_false]
theorem all_ok (l : List Int) (hl : l.length ≤ 4000000) (k : Nat) (hk : l.length < k) (a b : Int) :
    spec_allIn.f k l a b = some (decide (∀ x ∈ l, a ≤ x ∧ x ≤ b)) := by
  unfold spec_allIn.f
  have := all_go l hl a b l.length k 0 (by omega) hk
  rwa [List.drop_zero] at this

theorem pv_s (k : Nat) (hk : 17 ≤ k) (l : List Int) : spec_validPhases.f k l = some (decide (PV l)) := by
  unfold spec_validPhases.f PV
  by_cases c : l.length ≤ 16
  · rw [if_pos (by omega), all_ok l (by omega) k (by omega)]
    simp only [Option.bind_some, c, true_and]
  · rw [if_neg (by omega)]
    simp only [c, false_and, decide_false]

theorem sdgo_s (l : List Int) (h : PV l) (s : Nat) (hs : 1 ≤ s ∧ s ≤ 16) : ∀ (d k i : Nat) (acc : List Int), i + d = l.length - 2 * s → d < k → acc.length = i →
    spec_SecondDiffs.l0 k l (s : Int) acc (i : Int) = some (acc ++ (List.range' i d).map (d2 l s)) := by
  intro d
  have hl := h.1
  induction d with
  | zero =>
    intro k i acc hi hk ha
    obtain ⟨k, rfl⟩ : ∃ m, k = m + 1 := ⟨k - 1, by omega⟩
    have e1 : wrap64 ((i : Int) + (wrap64 (2 * (s : Int)))) = ((i + 2 * s : Nat) : Int) ∨ ¬ (i ≤ 16) := by
      by_cases c : i ≤ 16
      · left; unfold wrap64; omega
      · right; exact c
    simp only [spec_SecondDiffs.l0]
    rcases e1 with e1 | e1
    · rw [e1, if_neg (by omega)]; simp
    · omega
  | succ d ih =>
    intro k i acc hi hk ha
    obtain ⟨k, rfl⟩ : ∃ m, k = m + 1 := ⟨k - 1, by omega⟩
    have e1 : wrap64 ((i : Int) + (wrap64 (2 * (s : Int)))) = ((i + 2 * s : Nat) : Int) := by unfold wrap64; omega
    have e2 : wrap64 ((i : Int) + (s : Int)) = ((i + s : Nat) : Int) := by unfold wrap64; omega
    have e3 : wrap64 ((i : Int) + 1) = ((i + 1 : Nat) : Int) := by unfold wrap64; omega
    simp only [spec_SecondDiffs.l0, e1, e2, e3, rd_nat]
    rw [if_pos (by omega), if_pos (by omega), if_pos (by omega), if_pos (by omega), if_pos (by omega), if_pos (by omega), if_pos (by omega)]
    have h1 := h.getD (i + 2 * s)
    have h2 := h.getD (i + s)
    have h3 := h.getD i
    have e4 : wrap64 ((wrap64 (l.getD (i + 2 * s) 0 - (wrap64 (2 * l.getD (i + s) 0)))) + l.getD i 0) = d2 l s i := by unfold d2 wrap64; omega
    rw [e4, ih k (i + 1) (acc ++ [d2 l s i]) (by omega) (by omega) (by simp; omega), List.range'_succ, List.map_cons, List.append_assoc]
    rfl
theorem sd_s (k : Nat) (hk : 20 ≤ k) (l : List Int) (step : Int) : spec_SecondDiffs.f k l step = some (SDf l step) := by
  obtain ⟨k, rfl⟩ : ∃ m, k = m + 1 := ⟨k - 1, by omega⟩
  unfold spec_SecondDiffs.f SDf
  simp only [Option.bind_some, pv_s (k + 1) (by omega), inR, decide_eq_true_eq, spec_SecondDiffs.j0]
  by_cases h : PV l
  · by_cases hs : 1 ≤ step ∧ step ≤ 16
    · obtain ⟨s, rfl⟩ : ∃ s : Nat, step = (s : Int) := ⟨step.toNat, by omega⟩
      rw [if_pos h, if_neg (by simp only [hs, and_self, decide_true]; decide), if_pos ⟨h, hs⟩]
      have := sdgo_s l h s (by omega) (l.length - 2 * s) k 0 [] (by omega) (by have := h.1; omega) rfl
      rw [show (0 : Int) = ((0 : Nat) : Int) from rfl, this, Int.toNat_natCast, List.nil_append, D2, List.range_eq_range']
    · rw [if_pos h, if_pos (by simp only [hs, decide_false]; decide), if_neg (fun q => hs q.2)]
  · rw [if_neg h, if_pos True.intro, if_neg (fun q => h q.1)]

theorem D2_len (l : List Int) (s : Nat) : (D2 l s).length = l.length - 2 * s := by simp [D2]
theorem D2_at (l : List Int) {s i : Nat} (hi : i < l.length - 2 * s) : rd (D2 l s) (i : Int) = d2 l s i := by
  unfold rd D2
  rw [Int.toNat_natCast, List.getD_eq_getElem?_getD, List.getElem?_map, List.getElem?_range hi]; rfl
theorem SDf_cases (l : List Int) (step : Int) : SDf l step = [] ∨ ∃ s : Nat, step = (s : Int) ∧ PV l ∧ 1 ≤ s ∧ s ≤ 16 ∧ 2 * s < l.length ∧ l.length ≤ 16 ∧ SDf l step = D2 l s := by
  unfold SDf
  by_cases h : PV l ∧ 1 ≤ step ∧ step ≤ 16
  · rw [if_pos h]
    by_cases e : 2 * step.toNat < l.length
    · right; exact ⟨step.toNat, by omega, h.1, by omega, by omega, e, h.1.1, rfl⟩
    · left; unfold D2; rw [show l.length - 2 * step.toNat = 0 by omega]; rfl
  · rw [if_neg h]; left; rfl
theorem SDf_ok {l : List Int} (h : PV l) {s : Nat} (h1 : 1 ≤ s) (h2 : s ≤ 16) : SDf l (s : Int) = D2 l s := by
  unfold SDf; rw [if_pos ⟨h, by omega, by omega⟩, Int.toNat_natCast]
theorem D2_ne {l : List Int} {s : Nat} (h : 2 * s < l.length) : ((((D2 l s).length : Int) == 0)) = false := by
  rw [D2_len]; simp; omega

theorem xor_nn (a b : Nat) (ha : a < 4611686018427387904) (hb : b < 4611686018427387904) :
    Go.bits .xor .i64 (a : Int) (b : Int) = ((a ^^^ b : Nat) : Int) := by
  have hx : a ^^^ b < 2 ^ 62 := Nat.xor_lt_two_pow (by omega) (by omega)
  have h1 : (BitVec.ofInt 64 (a : Int)).toNat = a := by
    rw [BitVec.ofInt_natCast, BitVec.toNat_ofNat]; exact Nat.mod_eq_of_lt (by omega)
  have h2 : (BitVec.ofInt 64 (b : Int)).toNat = b := by
    rw [BitVec.ofInt_natCast, BitVec.toNat_ofNat]; exact Nat.mod_eq_of_lt (by omega)
  show IntKind.i64.wrap ((BitVec.ofInt 64 (a : Int) ^^^ BitVec.ofInt 64 (b : Int)).toNat : Int) = _
  rw [BitVec.toNat_xor, h1, h2]
  simp [IntKind.wrap, IntKind.bits, IntKind.signed]
  omega
theorem xor_nonneg (a b : Int) (ha : 0 ≤ a) (ha2 : a < 4611686018427387904) (hb : 0 ≤ b) (hb2 : b < 4611686018427387904) :
    0 ≤ Go.bits .xor .i64 a b := by
  obtain ⟨m, rfl⟩ := Int.eq_ofNat_of_zero_le ha
  obtain ⟨n, rfl⟩ := Int.eq_ofNat_of_zero_le hb
  have := xor_nn m n (by omega) (by omega)
  try simp only [Int.ofNat_eq_natCast] at this ⊢
  rw [this]; omega
/-- What a reader's bytes are. -/
def Byts (b : List Int) : Prop := b.length ≤ 2000 ∧ ∀ x ∈ b, 0 ≤ x ∧ x ≤ 255
theorem Byts.get {b : List Int} (h : Byts b) (i : Int) : 0 ≤ rd b i ∧ rd b i ≤ 255 := by
  unfold rd
  rw [List.getD_eq_getElem?_getD]
  by_cases hi : i.toNat < b.length
  · rw [List.getElem?_eq_getElem hi]; exact h.2 _ (List.getElem_mem hi)
  · rw [List.getElem?_eq_none (by omega)]; simp
theorem pick_ok (k : Nat) (hk : 1 ≤ k) {b : List Int} (hb : Byts b) {p : Int} (hp : 0 ≤ p) (hp2 : p ≤ 1000000) (n : Int) :
    ∃ v, spec_reader_pick.f k b p n = some (v, p + 1) ∧ 0 ≤ v ∧ (1 ≤ n → v < n) ∧ (n < 1 → v = 0) := by
  obtain ⟨k, rfl⟩ : ∃ m, k = m + 1 := ⟨k - 1, by omega⟩
  have hl := hb.1
  have w1 : wrap64 (p + 1) = p + 1 := by unfold wrap64; omega
  have w2 : wrap64 (p + 1 - 1) = p := by unfold wrap64; omega
  unfold spec_reader_pick.f
  rw [w1]
  by_cases hn : n < 1
  · rw [if_pos hn]
    exact ⟨0, by simp [spec_reader_pick.j0], by omega, by omega, fun _ => rfl⟩
  · rw [if_neg hn]
    by_cases he : (b.length : Int) = 0
    · refine ⟨0, ?_, by omega, by omega, fun _ => rfl⟩
      rw [show ((b.length : Int) == 0) = true by simpa using he]
      simp [spec_reader_pick.j0]
    · rw [show ((b.length : Int) == 0) = false by simpa using he]
      simp only [spec_reader_pick.j0, w2, if_neg (show ¬ (false = true) by decide), if_pos hp, if_neg (show ¬ n = 0 by omega)]
      by_cases hlt : p < (b.length : Int)
      · obtain ⟨r0, r1⟩ := hb.get p
        have w3 : wrap64 (rd b p) = rd b p := by unfold wrap64; omega
        rw [if_pos hlt, w3, Int.tmod_eq_emod_of_nonneg r0]
        exact ⟨_, rfl, Int.emod_nonneg _ (by omega), fun _ => Int.emod_lt_of_pos _ (by omega), fun _ => by omega⟩
      · have e1 := Int.tmod_eq_emod_of_nonneg (b := (b.length : Int)) hp
        have e2 : wrap64 (wrap64 (p * 7) + 3) = p * 7 + 3 := by unfold wrap64; omega
        have e3 := Int.tmod_eq_emod_of_nonneg (b := (b.length : Int)) (a := p * 7 + 3) (by omega)
        have e4 := Int.tdiv_eq_ediv_of_nonneg (b := (b.length : Int)) hp
        have n1 := Int.emod_nonneg p he
        have n2 := Int.emod_lt_of_pos p (show 0 < (b.length : Int) by omega)
        have n3 := Int.emod_nonneg (p * 7 + 3) he
        have n4 := Int.emod_lt_of_pos (p * 7 + 3) (show 0 < (b.length : Int) by omega)
        have n5 : 0 ≤ p / (b.length : Int) := Int.ediv_nonneg hp (by omega)
        have n6 : p / (b.length : Int) ≤ p := Int.ediv_le_self _ hp
        rw [if_neg hlt, if_neg he, e2, e1, e3, e4, if_pos n1, if_pos n2, if_pos n3, if_pos n4]
        obtain ⟨r0, r1⟩ := hb.get (p % (b.length : Int))
        obtain ⟨q0, q1⟩ := hb.get ((p * 7 + 3) % (b.length : Int))
        generalize rd b (p % (b.length : Int)) = x at *
        generalize rd b ((p * 7 + 3) % (b.length : Int)) = y at *
        generalize p / (b.length : Int) = z at *
        have w3 : wrap64 (wrap64 (wrap64 (wrap64 (wrap64 x * 131) + wrap64 (wrap64 y * 1117)) + wrap64 (p * 29)) + wrap64 (wrap64 z * 53)) = x * 131 + y * 1117 + p * 29 + z * 53 := by unfold wrap64; omega
        rw [w3]
        have w4 : wrap64 (Int.tdiv (x * 131 + y * 1117 + p * 29 + z * 53) 64) = (x * 131 + y * 1117 + p * 29 + z * 53) / 64 := by
          rw [Int.tdiv_eq_ediv_of_nonneg (by omega)]; unfold wrap64; omega
        rw [w4]
        have hx := xor_nonneg (x * 131 + y * 1117 + p * 29 + z * 53) ((x * 131 + y * 1117 + p * 29 + z * 53) / 64) (by omega) (by omega) (by omega) (by omega)
        rw [Int.tmod_eq_emod_of_nonneg hx]
        exact ⟨_, rfl, Int.emod_nonneg _ (by omega), fun _ => Int.emod_lt_of_pos _ (by omega), fun _ => by omega⟩

theorem reader_ok (l : List Int) (h : ∀ x ∈ l, (Lit.int .u8 x).wf = true) : ∃ b, spec_newReader.f l = some (b, 0) ∧ Byts b := by
  have h' : ∀ x ∈ l, 0 ≤ x ∧ x ≤ 255 := fun x hx => by
    have := h x hx
    simp [Lit.wf, IntKind.min, IntKind.max, IntKind.bits, IntKind.signed] at this
    omega
  unfold spec_newReader.f
  by_cases c : (l.length : Int) > 2000
  · rw [if_pos c, if_pos (by omega)]
    exact ⟨_, rfl, by simp; omega, fun x hx => h' x (List.mem_of_mem_take hx)⟩
  · rw [if_neg c]
    exact ⟨_, rfl, by omega, h'⟩

theorem one_ok (k : Nat) (hk : 1 ≤ k) {b : List Int} (hb : Byts b) {p : Int} (hp : 0 ≤ p) (hp2 : p ≤ 1000000) (l : List Int) (hl : l ≠ []) :
    ∃ v, spec_reader_one.f k b p l = some (v, p + 1) ∧ v ∈ l := by
  have hlen : 1 ≤ l.length := List.length_pos_iff.mpr hl
  obtain ⟨i, hi, h0, h1, h2⟩ := pick_ok k hk hb hp hp2 (l.length : Int)
  have h1 := h1 (by omega)
  unfold spec_reader_one.f
  rw [hi]
  simp only [Option.bind_some]
  rw [if_pos h0, if_pos h1]
  refine ⟨_, rfl, ?_⟩
  unfold rd
  rw [List.getD_eq_getElem?_getD, List.getElem?_eq_getElem (by omega)]
  exact List.getElem_mem _

theorem copy_ok (l : List Int) (h : l.length ≤ 1000000) : spec_copyInts.f l = some l := by
  unfold spec_copyInts.f
  simp only [Option.bind_some]
  rw [if_pos (by simp; omega), List.nil_append]
theorem spoil_ok (k : Nat) (hk : 1 ≤ k) {b : List Int} (hb : Byts b) {p : Int} (hp : 0 ≤ p) (hp2 : p ≤ 900000) (l : List Int) (hl : l.length ≤ 1000) (n : Int) :
    ∃ r q, spec_reader_spoil.f k b p l n = some (r, q) ∧ r.length ≤ l.length + 1 ∧ p ≤ q ∧ q ≤ p + 3 := by
  unfold spec_reader_spoil.f
  rw [copy_ok l (by omega), Option.bind_some]
  obtain ⟨v1, h1, m1⟩ := pick_ok k hk hb hp (by omega) 20
  rw [h1]; simp only [Option.bind_some]
  by_cases c0 : v1 = 0
  · rw [if_pos c0, if_pos (by omega)]
    exact ⟨_, _, rfl, by simp, by omega, by omega⟩
  · rw [if_neg c0]
    by_cases c1 : v1 = 1
    · rw [if_pos c1]
      by_cases e : (l.length : Int) > 0
      · rw [if_pos e, if_pos (by omega)]
        exact ⟨_, _, rfl, by simp; omega, by omega, by omega⟩
      · rw [if_neg e]
        exact ⟨_, _, rfl, by omega, by omega, by omega⟩
    · rw [if_neg c1]
      by_cases c2 : v1 = 2
      · rw [if_pos c2]
        by_cases e : (l.length : Int) > 0
        · rw [if_pos e]
          obtain ⟨v2, h2, m2, m3, _⟩ := pick_ok k hk hb (p := p + 1) (by omega) (by omega) (l.length : Int)
          rw [h2]; simp only [Option.bind_some]
          obtain ⟨v3, h3, _⟩ := one_ok k hk hb (p := p + 1 + 1) (by omega) (by omega) ([(-1), n, 0, 1]) (by simp)
          rw [h3]; simp only [Option.bind_some]
          have m3 := m3 (by omega)
          rw [if_pos m2, if_pos m3]
          exact ⟨_, _, rfl, by simp, by omega, by omega⟩
        · rw [if_neg e]
          exact ⟨_, _, rfl, by omega, by omega, by omega⟩
      · rw [if_neg c2]
        exact ⟨_, _, rfl, by omega, by omega, by omega⟩

theorem someoffset_ok (k : Nat) (hk : 1 ≤ k) {b : List Int} (hb : Byts b) {p : Int} (hp : 0 ≤ p) (hp2 : p ≤ 900000) :
    ∃ v, spec_someOffset.f k b p = some (v, p + 2) ∧ -1000000 ≤ v ∧ v ≤ 1000000 := by
  unfold spec_someOffset.f
  obtain ⟨v1, h1, m1, m2, _⟩ := pick_ok k hk hb hp (by omega) 250
  have m2 := m2 (by omega)
  rw [h1]; simp only [Option.bind_some]
  have e1 : wrap64 (40 * (wrap64 (v1 - 125))) = 40 * (v1 - 125) := by unfold wrap64; omega
  rw [e1]
  obtain ⟨v2, h2, m3⟩ := one_ok k hk hb (p := p + 1) (by omega) (by omega) ([0, 1, (-1), 100, (-250), 5000, 128000, 128001, (-128000), 1000000, (-1000000), 40 * (v1 - 125)]) (by simp)
  rw [h2]; simp only [Option.bind_some]
  refine ⟨v2, by rw [show p + 1 + 1 = p + 2 by omega], ?_⟩
  simp only [List.mem_cons, List.not_mem_nil, or_false] at m3
  omega

theorem phases_go {b : List Int} (hb : Byts b) : ∀ (n k : Nat) (acc : List Int) (at_ sl p : Int), n + 1 < k → n ≤ 20 → acc.length + n ≤ 100 → 0 ≤ p → p + n ≤ 800000 →
    ∃ r q, spec_anyPhases.l0 k acc at_ sl (n : Int) b p = some (r, q) ∧ r.length ≤ acc.length + n + 1 ∧ p ≤ q ∧ q ≤ p + n + 3 := by
  intro n
  induction n with
  | zero =>
    intro k acc at_ sl p hk hn ha hp hp2
    obtain ⟨k, rfl⟩ : ∃ m, k = m + 1 := ⟨k - 1, by omega⟩
    obtain ⟨r, q, h, h1, h2, h3⟩ := spoil_ok k (by omega) hb hp (by omega) acc (by omega) 1000001
    simp only [spec_anyPhases.l0]
    rw [if_neg (by omega), h]
    exact ⟨r, q, rfl, by omega, h2, by omega⟩
  | succ n ih =>
    intro k acc at_ sl p hk hn ha hp hp2
    obtain ⟨k, rfl⟩ : ∃ m, k = m + 1 := ⟨k - 1, by omega⟩
    simp only [spec_anyPhases.l0, spec_limitTo.f, Option.bind_some]
    rw [if_pos (by omega), if_pos (by omega)]
    obtain ⟨v, hv, _⟩ := pick_ok k (by omega) hb hp (by omega) 9
    rw [hv]; simp only [Option.bind_some]
    rw [show wrap64 (((n + 1 : Nat) : Int) - 1) = (n : Int) by unfold wrap64; omega]
    generalize mx (wrap64 (-1000000)) (mn 1000000 at_) = x
    generalize wrap64 ((wrap64 ((wrap64 (at_ + sl)) + v)) - 4) = y
    obtain ⟨r, q, h, h1, h2, h3⟩ := ih k (acc ++ [x]) y sl (p + 1) (by omega) (by omega) (by simp; omega) (by omega) (by omega)
    exact ⟨r, q, h, by simp at h1; omega, by omega, by omega⟩
theorem anyphases_ok (k : Nat) (hk : 30 ≤ k) {b : List Int} (hb : Byts b) {p : Int} (hp : 0 ≤ p) (hp2 : p ≤ 100000) :
    ∃ r q, spec_anyPhases.f k b p = some (r, q) ∧ r.length ≤ 18 ∧ p ≤ q ∧ q ≤ p + 40 := by
  unfold spec_anyPhases.f
  obtain ⟨v1, h1, m1⟩ := someoffset_ok k (by omega) hb hp (by omega)
  rw [h1]; simp only [Option.bind_some]
  obtain ⟨v2, h2, m2⟩ := pick_ok k (by omega) hb (p := p + 2) (by omega) (by omega) 40
  rw [h2]; simp only [Option.bind_some]
  obtain ⟨v3, h3, m3⟩ := one_ok k (by omega) hb (p := p + 2 + 1) (by omega) (by omega) ([5, 8, 6, 3, 16, 2, 1, 0, 17]) (by simp)
  rw [h3]; simp only [Option.bind_some]
  simp only [List.mem_cons, List.not_mem_nil, or_false] at m3
  obtain ⟨n, rfl⟩ : ∃ n : Nat, v3 = (n : Int) := ⟨v3.toNat, by omega⟩
  obtain ⟨r, q, h, l1, l2, l3⟩ := phases_go hb n k [] v1 (wrap64 (v2 - 20)) (p + 2 + 1 + 1) (by omega) (by omega) (by simp; omega) (by omega) (by omega)
  exact ⟨r, q, h, by simp at l1; omega, by omega, by omega⟩

theorem drawSD_ok (k : Nat) (hk : 30 ≤ k) (l : List Int) (h : ∀ x ∈ l, (Lit.int .u8 x).wf = true) : ∃ r s, spec_DrawSecondDiffs.f k l = some (r, s) ∧ r.length ≤ 18 := by
  obtain ⟨b, hr, hb⟩ := reader_ok l h
  obtain ⟨r, q, hs, hl, hq, hq2⟩ := anyphases_ok k hk hb (p := 0) (by omega) (by omega)
  obtain ⟨v, h2, _⟩ := one_ok k (by omega) hb (p := q) (by omega) (by omega) ([1, 2, 3, 7, 8, 0, 16, 17]) (by simp)
  exact ⟨r, v, by unfold spec_DrawSecondDiffs.f; rw [hr]; simp only [Option.bind_some]; rw [hs]; simp only [Option.bind_some]; rw [h2]; rfl, hl⟩

theorem equalInts_go (l : List Int) (hl : l.length ≤ 4000000) : ∀ (d k i : Nat), i + d = l.length → d < k → laws_equalInts.l0 k l l (i : Int) = some true := by
  intro d
  induction d with
  | zero =>
    intro k i hi hk
    obtain ⟨k, rfl⟩ : ∃ m, k = m + 1 := ⟨k - 1, by omega⟩
    simp only [laws_equalInts.l0]; rw [if_neg (by omega)]
  | succ d ih =>
    intro k i hi hk
    obtain ⟨k, rfl⟩ : ∃ m, k = m + 1 := ⟨k - 1, by omega⟩
    have hlt : i < l.length := by omega
    simp only [laws_equalInts.l0, if_true]
    rw [if_pos (by omega), if_pos (by omega), if_pos (by omega), w_succ hlt (by omega), ih k (i + 1) (by omega) (by omega)]
theorem equalInts_refl (l : List Int) (hl : l.length ≤ 4000000) (k : Nat) (hk : l.length < k) : laws_equalInts.f k l l = some true := by
  unfold laws_equalInts.f
  rw [if_pos rfl]
  exact equalInts_go l hl l.length k 0 (by omega) hk

theorem rev_at (l : List Int) {j : Nat} (h : j < l.length) : l.reverse.getD j 0 = l.getD (l.length - 1 - j) 0 := by
  rw [List.getD_eq_getElem?_getD, List.getElem?_reverse h, ← List.getD_eq_getElem?_getD]
theorem rev_d2 (l : List Int) {s i : Nat} (h : i < l.length - 2 * s) : d2 l.reverse s i = d2 l s (l.length - 2 * s - 1 - i) := by
  unfold d2
  rw [rev_at l (by omega), rev_at l (by omega), rev_at l (by omega), show l.length - 1 - (i + 2 * s) = l.length - 2 * s - 1 - i by omega, show l.length - 1 - (i + s) = l.length - 2 * s - 1 - i + s by omega, show l.length - 1 - i = l.length - 2 * s - 1 - i + 2 * s by omega]
  omega
theorem turn_l1 (l : List Int) (s : Nat) (hn : l.length ≤ 16) : ∀ (d k i : Nat), i + d = l.length - 2 * s → d < k →
    laws_FnSecondDiffsTurn.l1 k (D2 l s) (D2 l.reverse s) (i : Int) = some true := by
  intro d
  induction d with
  | zero =>
    intro k i hi hk
    obtain ⟨k, rfl⟩ : ∃ m, k = m + 1 := ⟨k - 1, by omega⟩
    simp only [laws_FnSecondDiffsTurn.l1, D2_len, List.length_reverse]
    rw [if_neg (by omega)]; simp
  | succ d ih =>
    intro k i hi hk
    obtain ⟨k, rfl⟩ : ∃ m, k = m + 1 := ⟨k - 1, by omega⟩
    simp only [laws_FnSecondDiffsTurn.l1, D2_len, List.length_reverse]
    have e : wrap64 (wrap64 (((l.length - 2 * s : Nat) : Int) - 1) - (i : Int)) = ((l.length - 2 * s - 1 - i : Nat) : Int) := by unfold wrap64; omega
    rw [e, if_pos (by omega), if_neg (by omega), if_pos (by omega), if_pos (by omega), if_pos (by omega), if_pos (by omega), D2_at l (by omega), D2_at l.reverse (by rw [List.length_reverse]; omega), if_pos (rev_d2 l (by omega)), show wrap64 ((i : Int) + 1) = ((i + 1 : Nat) : Int) by unfold wrap64; omega]
    exact ih k (i + 1) (by omega) (by omega)
theorem turn_l0 (l : List Int) (h : PV l) (s : Nat) (h1 : 1 ≤ s) (h2 : s ≤ 16) : ∀ (i k : Nat) (acc : List Int), i ≤ l.length → i + 40 < k → acc ++ (l.take i).reverse = l.reverse →
    laws_FnSecondDiffsTurn.l0 k l (s : Int) (D2 l s) acc ((i : Int) - 1) = some true := by
  have h16 := h.1
  have hp' : PV l.reverse := ⟨by simpa using h.1, fun x hx => h.2 x (by simpa using hx)⟩
  intro i
  induction i with
  | zero =>
    intro k acc hi hk ha
    obtain ⟨k, rfl⟩ : ∃ m, k = m + 1 := ⟨k - 1, by omega⟩
    rw [List.take_zero, List.reverse_nil, List.append_nil] at ha
    subst ha
    simp only [laws_FnSecondDiffsTurn.l0, sd_i k (by omega), Option.bind_some, SDf_ok hp' h1 h2]
    rw [if_neg (by omega)]
    exact turn_l1 l s h16 (l.length - 2 * s) k 0 (by omega) (by omega)
  | succ i ih =>
    intro k acc hi hk ha
    obtain ⟨k, rfl⟩ : ∃ m, k = m + 1 := ⟨k - 1, by omega⟩
    have hlt : i < l.length := by omega
    rw [show ((i + 1 : Nat) : Int) - 1 = (i : Int) by omega]
    have et : acc ++ [l[i]] ++ (l.take i).reverse = acc ++ (l.take (i + 1)).reverse := by
      rw [← List.take_append_getElem hlt, List.reverse_append, List.append_assoc]; rfl
    have hc : acc.length ≤ 100 := by
      have := congrArg List.length ha
      simp at this; omega
    simp only [laws_FnSecondDiffsTurn.l0, rd_at hlt]
    rw [if_pos (by omega), if_pos (by omega), if_pos (by omega), if_pos (by omega), show wrap64 ((i : Int) - 1) = (i : Int) - 1 by unfold wrap64; omega]
    exact ih k (acc ++ [l[i]]) (by omega) (by omega) (et.trans ha)
theorem FnSecondDiffsTurn : laws_FnSecondDiffsTurn.Pure := by
  intro l0 _ _ hw
  refine ⟨100, ?_⟩
  unfold laws_FnSecondDiffsTurn.f
  by_cases c : (l0.length : Int) > 1048576
  · rw [if_pos c]
  · rw [if_neg c]
    obtain ⟨l, step, hd, hr⟩ := drawSD_ok 100 (by omega) l0 hw
    have hS := SDf_len l step
    rw [hd]
    simp only [Option.bind_some, sd_i 100 (by omega), sd_s 100 (by omega), equalInts_refl _ (show (SDf l step).length ≤ 4000000 by omega) 100 (by omega), if_true, laws_FnSecondDiffsTurn.j0, sd_i 99 (by omega), sd_s 99 (by omega), equalInts_refl _ (show (SDf l step).length ≤ 4000000 by omega) 99 (by omega)]
    rcases SDf_cases l step with e | ⟨s, rfl, h, h1, h2, h3, h4, e⟩
    · rw [e]; rfl
    · rw [e, D2_ne h3, if_neg (by decide), show wrap64 ((l.length : Int) - 1) = (l.length : Int) - 1 by unfold wrap64; omega]
      exact turn_l0 l h s h1 h2 l.length 99 [] (by omega) (by omega) (by rw [List.take_of_length_le (by omega), List.nil_append])

end Go.Proofs.Ytjjdlocdcigfbaa.Pure
namespace Go.Proofs.Ytjjdlocdcigfbaa.PrintWords
/-- Under this name the row asks for it. -/
theorem sized_ints {H : Type} {enc : TypeId × Value → H} {P : Program} {W : World} {base : Nat} {spare : Nat → Bool} {held : Bool} {t e : TypeId} {k : IntKind} {a : Option Addr} {len cap : Nat} {d : DataW H} {ps : List MemPlace} {ts : List TypeId} {ds : List (DataW H)} {j : Nat}
    (hsz : (DataW.weightsEach P ts ds).all (· ≤ reachBytes) = true) (ht : ts[j]? = some t) (hd : ds[j]? = some d) (hu : P.underlying t = some (.slice e)) (he : P.underlying e = some (.int k)) (hc : P.cellsOf e = 1) {B : Nat} (hB : P.bytesOf e = B)
    (h : DataW.Trod enc P W base spare held t (.slice a len cap) d ps) : len * B ≤ 140737488351232 :=
  Go.Proofs.YtjjdlocdcigfbaaW.PrintWords.sized_ints hsz ht hd hu he hc hB h
end Go.Proofs.Ytjjdlocdcigfbaa.PrintWords
