/- SpanOf of the program returns what SpanOf of the reference returns, for every list of integers, and leaves its argument as it was. -/
import Derived.Test.YtjjdlocdcigfbaaQFnExactSpanOfx0
import Derived.Test.YtjjdlocdcigfbaaQFnExactSpanOfx1
import Derived.Test.YtjjdlocdcigfbaaQFnExactSpanOfx2
import Derived.Test.YtjjdlocdcigfbaaWSized
namespace Go.Proofs.Ytjjdlocdcigfbaa.Pure
open Go.RowKit Go.Proofs.Ytjjdlocdcigfbaa.QFnExactSpanOf Go.Proofs.YtjjdlocdcigfbaaW.PrintWords Go.Proofs.YtjjdlocdcigfbaaW.PrintLast Go.Proofs.YtjjdlocdcigfbaaW.PrintMore
set_option linter.unusedVariables false
set_option linter.unusedSimpArgs false
theorem inR (a b c : Int) : spec_inRange.f a b c = some (decide (b ≤ a ∧ a ≤ c)) := by
  unfold spec_inRange.f; by_cases h : b ≤ a <;> simp [h]
theorem wiT (a b c : Int) : impl_within.f a b c = some (decide (b ≤ a ∧ a ≤ c)) := by
  unfold impl_within.f; by_cases h : b ≤ a <;> simp [h]

theorem rd_at {l : List Int} {i : Nat} (h : i < l.length) : rd l (i : Int) = l[i] := by
  unfold rd
  rw [List.getD_eq_getElem?_getD, Int.toNat_natCast, List.getElem?_eq_getElem h, Option.getD_some]
theorem w_succ {i n : Nat} (h : i < n) (hn : n ≤ 4611686018427387904) : wrap64 ((i : Int) + 1) = ((i + 1 : Nat) : Int) := by
  unfold wrap64; omega

theorem lit_ok (x : Int) : impl_fourStamps_lit1.f x = some (decide (¬ (0 ≤ x ∧ x ≤ 200000000999999))) := by
  unfold impl_fourStamps_lit1.f impl_isStamp.f
  simp only [wiT, Option.bind_some, decide_not]
theorem idx_ok (l : List Int) (hl : l.length ≤ 4000000) : ∀ (d k i : Nat), i + d = l.length → d < k →
    ∃ r, slices_IndexFunc_int_int.l0 k l (l.length : Int) (i : Int) = some r ∧ (0 ≤ r ↔ ∃ x ∈ l.drop i, ¬ (0 ≤ x ∧ x ≤ 200000000999999)) := by
  intro d
  induction d with
  | zero =>
    intro k i hi hk
    obtain ⟨k, rfl⟩ : ∃ m, k = m + 1 := ⟨k - 1, by omega⟩
    refine ⟨-1, ?_, ?_⟩
    · simp only [slices_IndexFunc_int_int.l0]; rw [if_neg (by omega)]
    · rw [List.drop_of_length_le (by omega)]; simp
  | succ d ih =>
    intro k i hi hk
    obtain ⟨k, rfl⟩ : ∃ m, k = m + 1 := ⟨k - 1, by omega⟩
    have hlt : i < l.length := by omega
    rw [List.drop_eq_getElem_cons hlt]
    simp only [slices_IndexFunc_int_int.l0, lit_ok, Option.bind_some, decide_eq_true_eq, rd_at hlt]
    rw [if_pos (by omega), if_pos (by omega), if_pos (by omega)]
    by_cases c : ¬ (0 ≤ l[i] ∧ l[i] ≤ 200000000999999)
    · rw [if_pos c]
      exact ⟨_, rfl, fun _ => ⟨l[i], List.mem_cons_self, c⟩, fun _ => by omega⟩
    · rw [if_neg c, w_succ hlt (by omega)]
      obtain ⟨r, hr, h⟩ := ih k (i + 1) (by omega) (by omega)
      refine ⟨r, hr, h.trans ⟨fun ⟨x, hx, hn⟩ => ⟨x, List.mem_cons_of_mem _ hx, hn⟩, fun ⟨x, hx, hn⟩ => ?_⟩⟩
      rcases List.mem_cons.mp hx with rfl | hx
      · exact absurd hn c
      · exact ⟨x, hx, hn⟩
theorem cf_ok (l : List Int) (hl : l.length ≤ 4000000) (k : Nat) (hk : l.length < k) :
    slices_ContainsFunc_int_int.f k l = some (!decide (∀ x ∈ l, 0 ≤ x ∧ x ≤ 200000000999999)) := by
  obtain ⟨r, hr, h⟩ := idx_ok l hl l.length k 0 (by omega) hk
  unfold slices_ContainsFunc_int_int.f slices_IndexFunc_int_int.f
  rw [show (0 : Int) = ((0 : Nat) : Int) from rfl, hr, Option.bind_some]
  congr 1
  rw [List.drop_zero] at h
  rw [← decide_not, decide_eq_decide]
  refine Iff.trans h ⟨fun ⟨x, hx, hn⟩ ha => hn (ha x hx), fun ha => ?_⟩
  rcases Classical.em (∃ x ∈ l, ¬ (0 ≤ x ∧ x ≤ 200000000999999)) with hc | hc
  · exact hc
  · exact absurd (fun x hx => Classical.byContradiction fun hn => hc ⟨x, hx, hn⟩) ha

theorem mn_eq (a b : Int) : mn a b = min a b := by unfold mn; omega
theorem mx_eq (a b : Int) : mx a b = max a b := by unfold mx; omega

/-- Four time stamps. -/
def FS (l : List Int) : Prop := l.length = 4 ∧ ∀ x ∈ l, 0 ≤ x ∧ x ≤ 200000000999999
instance (l : List Int) : Decidable (FS l) := by unfold FS; infer_instance
theorem fs_i (k : Nat) (hk : 5 ≤ k) (l : List Int) : impl_fourStamps.f k l = some (decide (FS l)) := by
  unfold impl_fourStamps.f FS
  by_cases c : l.length = 4
  · rw [if_pos (by omega), cf_ok l (by omega) k (by omega)]
    simp only [Option.bind_some, Bool.not_not, c, true_and]
  · rw [if_neg (by omega)]
    simp only [c, false_and, decide_false]
theorem FS.cases {l : List Int} (h : FS l) : ∃ a b c d, l = [a, b, c, d] ∧ (0 ≤ a ∧ a ≤ 200000000999999) ∧ (0 ≤ b ∧ b ≤ 200000000999999) ∧ (0 ≤ c ∧ c ≤ 200000000999999) ∧ (0 ≤ d ∧ d ≤ 200000000999999) := by
  match l, h with
  | [a, b, c, d], h => exact ⟨a, b, c, d, rfl, h.2 a (by simp), h.2 b (by simp), h.2 c (by simp), h.2 d (by simp)⟩
theorem FS.mk4 {a b c d : Int} (ha : 0 ≤ a ∧ a ≤ 200000000999999) (hb : 0 ≤ b ∧ b ≤ 200000000999999) (hc : 0 ≤ c ∧ c ≤ 200000000999999) (hd : 0 ≤ d ∧ d ≤ 200000000999999) : FS [a, b, c, d] := by
  refine ⟨rfl, fun x hx => ?_⟩
  simp only [List.mem_cons, List.not_mem_nil, or_false] at hx
  rcases hx with rfl | rfl | rfl | rfl <;> assumption
theorem rd40 (a b c d : Int) : rd [a, b, c, d] 0 = a := rfl
theorem rd41 (a b c d : Int) : rd [a, b, c, d] 1 = b := rfl
theorem rd42 (a b c d : Int) : rd [a, b, c, d] 2 = c := rfl
theorem rd43 (a b c d : Int) : rd [a, b, c, d] 3 = d := rfl
theorem ln4 (a b c d : Int) : (([a, b, c, d] : List Int).length : Int) = 4 := rfl

/-- What DelayOf returns. -/
def DLf (l : List Int) : Int := if FS l then max (rd l 3 - rd l 0 - rd l 2 + rd l 1) 0 else -1
theorem dl_i (k : Nat) (hk : 5 ≤ k) (l : List Int) : impl_DelayOf.f k l = some (DLf l) := by
  unfold impl_DelayOf.f DLf
  simp only [fs_i k hk, Option.bind_some, decide_eq_true_eq, mx_eq]
  by_cases h : FS l
  · obtain ⟨a, b, c, d, rfl, ha, hb, hc, hd⟩ := h.cases
    rw [if_pos h, if_pos h, rd40, rd41, rd42, rd43, ln4, if_pos (by omega), if_pos (by omega), if_pos (by omega), if_pos (by omega)]
    have e : wrap64 ((wrap64 ((wrap64 (d - a)) - c)) + b) = d - a - c + b := by unfold wrap64; omega
    rw [e]
  · rw [if_neg h, if_neg h]

theorem all_go (l : List Int) (hl : l.length ≤ 4000000) (a b : Int) : ∀ (d k i : Nat), i + d = l.length → d < k →
    spec_allIn.l0 k l a b (i : Int) = some (decide (∀ x ∈ l.drop i, a ≤ x ∧ x ≤ b)) := by
  intro d
  induction d with
  | zero =>
    intro k i hi hk
    obtain ⟨k, rfl⟩ : ∃ m, k = m + 1 := ⟨k - 1, by omega⟩
    simp only [spec_allIn.l0]; rw [if_neg (by omega), List.drop_of_length_le (by omega)]; simp
  | succ d ih =>
    intro k i hi hk
    obtain ⟨k, rfl⟩ : ∃ m, k = m + 1 := ⟨k - 1, by omega⟩
    have hlt : i < l.length := by omega
    rw [List.drop_eq_getElem_cons hlt]
    simp only [spec_allIn.l0, inR, Option.bind_some, decide_eq_true_eq, rd_at hlt]
    rw [if_pos (by omega), if_pos (by omega)]
    by_cases c : a ≤ l[i] ∧ l[i] ≤ b
    · rw [if_pos c, w_succ hlt (by omega), ih k (i + 1) (by omega) (by omega)]
      congr 1
      rw [decide_eq_decide]
      refine ⟨fun h x hx => ?_, fun h x hx => h x (List.mem_cons_of_mem _ hx)⟩
      rcases List.mem_cons.mp hx with rfl | hx
      · exact c
      · exact h x hx
    · rw [if_neg c]
      simp only [List.mem_cons, forall_eq_or_imp, c, false_and, decide_false]
theorem all_ok (l : List Int) (hl : l.length ≤ 4000000) (k : Nat) (hk : l.length < k) (a b : Int) :
    spec_allIn.f k l a b = some (decide (∀ x ∈ l, a ≤ x ∧ x ≤ b)) := by
  unfold spec_allIn.f
  have := all_go l hl a b l.length k 0 (by omega) hk
  rwa [List.drop_zero] at this

theorem fs_s (k : Nat) (hk : 5 ≤ k) (l : List Int) : spec_validStamps.f k l = some (decide (FS l)) := by
  unfold spec_validStamps.f FS
  by_cases c : l.length = 4
  · rw [if_pos (by omega), all_ok l (by omega) k (by omega)]
    simp only [Option.bind_some, c, true_and]
  · rw [if_neg (by omega)]
    simp only [c, false_and, decide_false]

theorem dl_s (k : Nat) (hk : 5 ≤ k) (l : List Int) : spec_DelayOf.f k l = some (DLf l) := by
  unfold spec_DelayOf.f DLf
  simp only [fs_s k hk, Option.bind_some, decide_eq_true_eq, mx_eq]
  by_cases h : FS l
  · obtain ⟨a, b, c, d, rfl, ha, hb, hc, hd⟩ := h.cases
    rw [if_pos h, if_pos h, rd40, rd41, rd42, rd43, ln4, if_pos (by omega), if_pos (by omega), if_pos (by omega), if_pos (by omega)]
    have e : wrap64 ((wrap64 ((wrap64 (d - a)) - c)) + b) = d - a - c + b := by unfold wrap64; omega
    rw [e, Int.max_comm]
  · rw [if_neg h, if_neg h]

theorem floor_eq (a b : Int) (hb : 0 < b) : (if Int.tmod a b < 0 then Int.tdiv a b - 1 else Int.tdiv a b) = a / b := by
  by_cases ha : 0 ≤ a
  · rw [Int.tmod_eq_emod_of_nonneg ha, Int.tdiv_eq_ediv_of_nonneg ha, if_neg (by have := Int.emod_nonneg a (show b ≠ 0 by omega); omega)]
  · obtain ⟨n, rfl⟩ : ∃ n, a = -n := ⟨-a, by omega⟩
    have hn : 0 ≤ n := by omega
    rw [Int.neg_tdiv, Int.neg_tmod, Int.tmod_eq_emod_of_nonneg hn, Int.tdiv_eq_ediv_of_nonneg hn]
    have e1 := Int.mul_ediv_add_emod n b
    have e2 := Int.emod_nonneg n (show b ≠ 0 by omega)
    have e3 := Int.emod_lt_of_pos n hb
    generalize n / b = q at *
    generalize n % b = r at *
    by_cases h : r = 0
    · rw [if_neg (by omega)]
      exact (((Int.ediv_emod_unique (a := -n) (r := 0) (q := -q) hb).mpr ⟨by rw [Int.mul_neg]; omega, by omega, by omega⟩).1).symm
    · rw [if_pos (by omega)]
      exact (((Int.ediv_emod_unique (a := -n) (r := b - r) (q := -q - 1) hb).mpr ⟨by rw [Int.mul_sub, Int.mul_neg, Int.mul_one]; omega, by omega, by omega⟩).1).symm
theorem ediv_bd (a b : Int) (hb : 0 < b) : -(max a (-a)) - 1 ≤ a / b ∧ a / b ≤ max a (-a) := by
  constructor
  · have h := Int.le_ediv_of_mul_le (a := -(max a (-a))) (b := a) (c := b) hb (by
      have : -(max a (-a)) * b ≤ -(max a (-a)) * 1 := Int.mul_le_mul_of_nonpos_left (by omega) (by omega)
      omega)
    omega
  · by_cases ha : 0 ≤ a
    · have := Int.ediv_le_self b ha; omega
    · have := Int.ediv_neg_of_neg_of_pos (show a < 0 by omega) hb; omega
theorem floor_i (a b : Int) (hb : 0 < b) (ha : -4611686018427387904 ≤ a ∧ a ≤ 4611686018427387904) : impl_floor.f a b = some (a / b) := by
  have h := floor_eq a b hb
  have hd := ediv_bd a b hb
  unfold impl_floor.f
  rw [if_neg (by omega)]
  by_cases c : Int.tmod a b < 0
  · rw [if_pos c] at h
    have e : wrap64 (Int.tdiv a b) = Int.tdiv a b := by unfold wrap64; omega
    rw [if_pos c, e, h]; congr 1; unfold wrap64; omega
  · rw [if_neg c] at h
    rw [if_neg c, h]; congr 1; unfold wrap64; omega

/-- What OffsetOf returns. -/
def OFf (l : List Int) : Int × Bool := if FS l then ((rd l 1 - rd l 0 + rd l 2 - rd l 3) / 2, true) else (0, false)
theorem of_i (k : Nat) (hk : 5 ≤ k) (l : List Int) : impl_OffsetOf.f k l = some (OFf l) := by
  unfold impl_OffsetOf.f OFf
  simp only [fs_i k hk, Option.bind_some, decide_eq_true_eq]
  by_cases h : FS l
  · obtain ⟨a, b, c, d, rfl, ha, hb, hc, hd⟩ := h.cases
    rw [if_pos h, if_pos h]
    simp only [rd40, rd41, rd42, rd43, ln4]
    rw [if_pos (by omega), if_pos (by omega), if_pos (by omega), if_pos (by omega)]
    have e : wrap64 ((wrap64 ((wrap64 (b - a)) + c)) - d) = b - a + c - d := by unfold wrap64; omega
    rw [e, floor_i _ _ (by omega) (by omega)]; rfl
  · rw [if_neg h, if_neg h]

theorem floor_s (a b : Int) (hb : 0 < b) (ha : -4611686018427387904 ≤ a ∧ a ≤ 4611686018427387904) : spec_floorDiv.f a b = some (a / b) := by
  have h := floor_eq a b hb
  have hd := ediv_bd a b hb
  unfold spec_floorDiv.f
  rw [if_neg (by omega)]
  by_cases c : Int.tmod a b < 0
  · rw [if_pos c] at h
    have e : wrap64 (Int.tdiv a b) = Int.tdiv a b := by unfold wrap64; omega
    rw [if_pos c, e, h]; congr 1; unfold wrap64; omega
  · rw [if_neg c] at h
    rw [if_neg c, h]; congr 1; unfold wrap64; omega

theorem of_s (k : Nat) (hk : 5 ≤ k) (l : List Int) : spec_OffsetOf.f k l = some (OFf l) := by
  unfold spec_OffsetOf.f OFf
  simp only [fs_s k hk, Option.bind_some, decide_eq_true_eq]
  by_cases h : FS l
  · obtain ⟨a, b, c, d, rfl, ha, hb, hc, hd⟩ := h.cases
    rw [if_pos h, if_pos h]
    simp only [rd40, rd41, rd42, rd43, ln4]
    rw [if_pos (by omega), if_pos (by omega), if_pos (by omega), if_pos (by omega)]
    have e : wrap64 ((wrap64 ((wrap64 (b - a)) + c)) - d) = b - a + c - d := by unfold wrap64; omega
    rw [e, floor_s _ _ (by omega) (by omega)]; rfl
  · rw [if_neg h, if_neg h]

/-- What SpanOf returns. -/
def SPf (l : List Int) : Int × Int × Bool := if FS l ∧ -1000000 ≤ (OFf l).1 - (DLf l + 1) / 2 ∧ (OFf l).1 + (DLf l + 1) / 2 ≤ 1000000 then ((OFf l).1 - (DLf l + 1) / 2, (OFf l).1 + (DLf l + 1) / 2, true) else (0, 0, false)
theorem sp_bd {l : List Int} (h : FS l) : (OFf l).2 = true ∧ (-600000000000000 ≤ (OFf l).1 ∧ (OFf l).1 ≤ 600000000000000) ∧ (0 ≤ DLf l ∧ DLf l ≤ 600000000000000) := by
  obtain ⟨a, b, c, d, rfl, ha, hb, hc, hd⟩ := h.cases
  unfold OFf DLf
  rw [if_pos h, if_pos h]
  simp only [rd40, rd41, rd42, rd43]
  refine ⟨trivial, ?_, ?_⟩ <;> omega
theorem sp_off {l : List Int} (h : ¬ FS l) : OFf l = (0, false) := by unfold OFf; rw [if_neg h]
theorem sv_i (x y : Int) (h : x ≤ y) : impl_spanValid.f x y = some (decide (-1000000 ≤ x ∧ y ≤ 1000000)) := by
  unfold impl_spanValid.f
  simp only [wiT, Option.bind_some, decide_eq_true_eq]
  by_cases c : -1000000 ≤ x ∧ x ≤ 1000000
  · rw [if_pos c]; congr 1; exact decide_eq_decide.mpr (by omega)
  · rw [if_neg c]; congr 1; symm; exact decide_eq_false (by omega)
theorem sv_s (x y : Int) (h : x ≤ y) : spec_validSpan.f x y = some (decide (-1000000 ≤ x ∧ y ≤ 1000000)) := by
  unfold spec_validSpan.f
  simp only [inR, Option.bind_some, decide_eq_true_eq]
  by_cases c : -1000000 ≤ x ∧ x ≤ 1000000
  · rw [if_pos c]; congr 1; exact decide_eq_decide.mpr (by omega)
  · rw [if_neg c]; congr 1; symm; exact decide_eq_false (by omega)
theorem sp_w {n d : Int} (hn : -600000000000000 ≤ n ∧ n ≤ 600000000000000) (hd : 0 ≤ d ∧ d ≤ 600000000000000) :
    wrap64 (n - wrap64 (Int.tdiv (wrap64 (d + 1)) 2)) = n - (d + 1) / 2 ∧ wrap64 (n + wrap64 (Int.tdiv (wrap64 (d + 1)) 2)) = n + (d + 1) / 2 := by
  have w1 : wrap64 (d + 1) = d + 1 := by unfold wrap64; omega
  have w2 : Int.tdiv (d + 1) 2 = (d + 1) / 2 := Int.tdiv_eq_ediv_of_nonneg (by omega)
  rw [w1, w2]; unfold wrap64; omega
theorem sp_i (k : Nat) (hk : 5 ≤ k) (l : List Int) : impl_SpanOf.f k l = some (SPf l) := by
  unfold impl_SpanOf.f SPf
  simp only [of_i k hk, dl_i k hk, Option.bind_some]
  by_cases h : FS l
  · obtain ⟨e, hn, hd⟩ := sp_bd h
    obtain ⟨w1, w2⟩ := sp_w hn hd
    simp only [e, if_true, w1, w2]
    rw [sv_i _ _ (by omega)]
    simp only [Option.bind_some, decide_eq_true_eq]
    by_cases v : -1000000 ≤ (OFf l).1 - (DLf l + 1) / 2 ∧ (OFf l).1 + (DLf l + 1) / 2 ≤ 1000000
    · rw [if_pos v, if_pos ⟨h, v⟩]
    · rw [if_neg v, if_neg (fun q => v q.2)]
  · rw [sp_off h, if_neg (by decide), if_neg (fun q => h q.1)]
theorem sp_s (k : Nat) (hk : 5 ≤ k) (l : List Int) : spec_SpanOf.f k l = some (SPf l) := by
  unfold spec_SpanOf.f SPf
  simp only [of_s k hk, dl_s k hk, Option.bind_some]
  by_cases h : FS l
  · obtain ⟨e, hn, hd⟩ := sp_bd h
    obtain ⟨w1, w2⟩ := sp_w hn hd
    simp only [e, if_true, w1, w2]
    rw [sv_s _ _ (by omega)]
    simp only [Option.bind_some, decide_eq_true_eq]
    by_cases v : -1000000 ≤ (OFf l).1 - (DLf l + 1) / 2 ∧ (OFf l).1 + (DLf l + 1) / 2 ≤ 1000000
    · rw [if_pos v, if_pos ⟨h, v⟩]
    · rw [if_neg v, if_neg (fun q => v q.2)]
  · rw [sp_off h, if_neg (by decide), if_neg (fun q => h q.1)]

theorem toIntS_go (l : List Int) (hl : l.length ≤ 4000000) : ∀ (d k i : Nat) (R : List Int), i + d = l.length → d < k → R.length = d → laws_toIntS.l0 k l (l.take i ++ R) (i : Int) = some l := by
  intro d
  induction d with
  | zero =>
    intro k i R hi hk hR
    obtain ⟨k, rfl⟩ : ∃ m, k = m + 1 := ⟨k - 1, by omega⟩
    obtain rfl := List.eq_nil_of_length_eq_zero hR
    simp only [laws_toIntS.l0]; rw [if_neg (by omega), List.append_nil, List.take_of_length_le (by omega)]
  | succ d ih =>
    intro k i R hi hk hR
    obtain ⟨k, rfl⟩ : ∃ m, k = m + 1 := ⟨k - 1, by omega⟩
    have hlt : i < l.length := by omega
    match R, hR with
    | r :: R, hR =>
      have hR : R.length = d := by simpa using hR
      have hX : (l.take i ++ r :: R).length = l.length := by simp; omega
      have hs : (l.take i ++ r :: R).set i l[i] = l.take (i + 1) ++ R := by
        rw [List.set_append_right _ _ (by simp; omega), show i - (l.take i).length = 0 by simp; omega, List.set_cons_zero, ← List.take_append_getElem hlt, List.append_assoc]; rfl
      simp only [laws_toIntS.l0, rd_at hlt]
      rw [if_pos (by omega), if_pos (by omega), if_pos (by rw [hX]; omega), Int.toNat_natCast, hs, w_succ hlt (by omega), ih k (i + 1) R (by omega) (by omega) hR]
theorem toIntS_ok (l : List Int) (hl : l.length ≤ 4000000) (k : Nat) (hk : l.length < k) : laws_toIntS.f k l = some l := by
  unfold laws_toIntS.f
  rw [if_pos (by omega), if_pos (by omega)]
  exact toIntS_go l hl l.length k 0 _ (by omega) hk (by simp)

theorem eqIntS_go (l : List Int) (hl : l.length ≤ 4000000) : ∀ (d k i : Nat), i + d = l.length → d < k → laws_eqIntS.l0 k l l (i : Int) = some true := by
  intro d
  induction d with
  | zero =>
    intro k i hi hk
    obtain ⟨k, rfl⟩ : ∃ m, k = m + 1 := ⟨k - 1, by omega⟩
    simp only [laws_eqIntS.l0]; rw [if_neg (by omega)]
  | succ d ih =>
    intro k i hi hk
    obtain ⟨k, rfl⟩ : ∃ m, k = m + 1 := ⟨k - 1, by omega⟩
    have hlt : i < l.length := by omega
    simp only [laws_eqIntS.l0, if_true]
    rw [if_pos (by omega), if_pos (by omega), if_pos (by omega), w_succ hlt (by omega), ih k (i + 1) (by omega) (by omega)]
theorem eqIntS_refl (l : List Int) (hl : l.length ≤ 4000000) (k : Nat) (hk : l.length < k) : laws_eqIntS.f k l l = some true := by
  unfold laws_eqIntS.f
  rw [if_pos rfl]
  exact eqIntS_go l hl l.length k 0 (by omega) hk

theorem FnExactSpanOf : laws_FnExactSpanOf.Pure := by
  intro l _ _ hw
  refine ⟨l.length + 60, ?_⟩
  unfold laws_FnExactSpanOf.f
  by_cases c : (l.length : Int) > 1048576
  · rw [if_pos c]
  · rw [if_neg c, toIntS_ok l (by omega) _ (by omega)]
    simp only [Option.bind_some, sp_i (l.length + 60) (by omega), sp_s (l.length + 60) (by omega), laws_eqSpan.f, if_true, bne_self_eq_false]
    obtain ⟨j, hj⟩ : ∃ m, l.length + 60 = m + 1 := ⟨l.length + 59, by omega⟩
    rw [hj]
    simp only [laws_FnExactSpanOf.j0, if_neg (show ¬ (false = true) by decide), toIntS_ok l (by omega) j (by omega), Option.bind_some, eqIntS_refl l (by omega) j (by omega), if_true]

end Go.Proofs.Ytjjdlocdcigfbaa.Pure
namespace Go.Proofs.Ytjjdlocdcigfbaa.PrintWords
/-- Under this name the row asks for it. -/
theorem sized_ints {H : Type} {enc : TypeId × Value → H} {P : Program} {W : World} {base : Nat} {spare : Nat → Bool} {held : Bool} {t e : TypeId} {k : IntKind} {a : Option Addr} {len cap : Nat} {d : DataW H} {ps : List MemPlace} {ts : List TypeId} {ds : List (DataW H)} {j : Nat}
    (hsz : (DataW.weightsEach P ts ds).all (· ≤ reachBytes) = true) (ht : ts[j]? = some t) (hd : ds[j]? = some d) (hu : P.underlying t = some (.slice e)) (he : P.underlying e = some (.int k)) (hc : P.cellsOf e = 1) {B : Nat} (hB : P.bytesOf e = B)
    (h : DataW.Trod enc P W base spare held t (.slice a len cap) d ps) : len * B ≤ 140737488351232 :=
  Go.Proofs.YtjjdlocdcigfbaaW.PrintWords.sized_ints hsz ht hd hu he hc hB h
end Go.Proofs.Ytjjdlocdcigfbaa.PrintWords
