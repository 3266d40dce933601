/- For every list of bytes: of the time stamps that are drawn from it, the span is as wide or wider if the answer arrives 20 microseconds later, as the law says. -/
import Derived.Test.YtjjdlocdcigfbaaQFnSpanOfWidex0
import Derived.Test.YtjjdlocdcigfbaaQFnSpanOfWidex1
import Derived.Test.YtjjdlocdcigfbaaQFnSpanOfWidex2
import Derived.Test.YtjjdlocdcigfbaaQFnSpanOfWidex3
import Derived.Test.YtjjdlocdcigfbaaQFnSpanOfWidex4
import Derived.Test.YtjjdlocdcigfbaaQFnSpanOfWidex5
import Derived.Test.YtjjdlocdcigfbaaWSized
namespace Go.Proofs.Ytjjdlocdcigfbaa.Pure
open Go.RowKit Go.Proofs.Ytjjdlocdcigfbaa.QFnSpanOfWide Go.Proofs.YtjjdlocdcigfbaaW.PrintWords Go.Proofs.YtjjdlocdcigfbaaW.PrintLast Go.Proofs.YtjjdlocdcigfbaaW.PrintMore
set_option linter.unusedVariables false
set_option linter.unusedSimpArgs false
theorem inR (a b c : Int) : spec_inRange.f a b c = some (decide (b ≤ a ∧ a ≤ c)) := by
  unfold spec_inRange.f; by_cases h : b ≤ a <;> simp [h]
theorem wiT (a b c : Int) : impl_within.f a b c = some (decide (b ≤ a ∧ a ≤ c)) := by
  unfold impl_within.f; by_cases h : b ≤ a <;> simp [h]

theorem rd_at {l : List Int} {i : Nat} (h : i < l.length) : rd l (i : Int) = l[i] := by
  unfold rd
  rw [List.getD_eq_getElem?_getD, Int.toNat_natCast, List.getElem?_eq_getElem h, Option.getD_some]
theorem w_succ {i n : Nat} (h : i < n) (hn : n ≤ 4611686018427387904) : wrap64 ((i : Int) + 1) = ((i + 1 : Nat) : Int) := by
  unfold wrap64; omega

theorem lit_ok (x : Int) : impl_fourStamps_lit1.f x = some (decide (¬ (0 ≤ x ∧ x ≤ 200000000999999))) := by
  unfold impl_fourStamps_lit1.f impl_isStamp.f
  simp only [wiT, Option.bind_some, decide_not]
theorem idx_ok (l : List Int) (hl : l.length ≤ 4000000) : ∀ (d k i : Nat), i + d = l.length → d < k →
    ∃ r, slices_IndexFunc_int_int.l0 k l (l.length : Int) (i : Int) = some r ∧ (0 ≤ r ↔ ∃ x ∈ l.drop i, ¬ (0 ≤ x ∧ x ≤ 200000000999999)) := by
  intro d
  induction d with
  | zero =>
    intro k i hi hk
    obtain ⟨k, rfl⟩ : ∃ m, k = m + 1 := ⟨k - 1, by omega⟩
    refine ⟨-1, ?_, ?_⟩
    · simp only [slices_IndexFunc_int_int.l0]; rw [if_neg (by omega)]
    · rw [List.drop_of_length_le (by omega)]; simp
  | succ d ih =>
    intro k i hi hk
    obtain ⟨k, rfl⟩ : ∃ m, k = m + 1 := ⟨k - 1, by omega⟩
    have hlt : i < l.length := by omega
    rw [List.drop_eq_getElem_cons hlt]
    simp only [slices_IndexFunc_int_int.l0, lit_ok, Option.bind_some, decide_eq_true_eq, rd_at hlt]
    rw [if_pos (by omega), if_pos (by omega), if_pos (by omega)]
    by_cases c : ¬ (0 ≤ l[i] ∧ l[i] ≤ 200000000999999)
    · rw [if_pos c]
      exact ⟨_, rfl, fun _ => ⟨l[i], List.mem_cons_self, c⟩, fun _ => by omega⟩
    · rw [if_neg c, w_succ hlt (by omega)]
      obtain ⟨r, hr, h⟩ := ih k (i + 1) (by omega) (by omega)
      refine ⟨r, hr, h.trans ⟨fun ⟨x, hx, hn⟩ => ⟨x, List.mem_cons_of_mem _ hx, hn⟩, fun ⟨x, hx, hn⟩ => ?_⟩⟩
      rcases List.mem_cons.mp hx with rfl | hx
      · exact absurd hn c
      · exact ⟨x, hx, hn⟩
theorem cf_ok (l : List Int) (hl : l.length ≤ 4000000) (k : Nat) (hk : l.length < k) :
    slices_ContainsFunc_int_int.f k l = some (!decide (∀ x ∈ l, 0 ≤ x ∧ x ≤ 200000000999999)) := by
  obtain ⟨r, hr, h⟩ := idx_ok l hl l.length k 0 (by omega) hk
  unfold slices_ContainsFunc_int_int.f slices_IndexFunc_int_int.f
  rw [show (0 : Int) = ((0 : Nat) : Int) from rfl, hr, Option.bind_some]
  congr 1
  rw [List.drop_zero] at h
  rw [← decide_not, decide_eq_decide]
  refine Iff.trans h ⟨fun ⟨x, hx, hn⟩ ha => hn (ha x hx), fun ha => ?_⟩
  rcases Classical.em (∃ x ∈ l, ¬ (0 ≤ x ∧ x ≤ 200000000999999)) with hc | hc
  · exact hc
  · exact absurd (fun x hx => Classical.byContradiction fun hn => hc ⟨x, hx, hn⟩) ha

theorem mn_eq (a b : Int) : mn a b = min a b := by unfold mn; omega
theorem mx_eq (a b : Int) : mx a b = max a b := by unfold mx; omega

/-- Four time stamps. -/
def FS (l : List Int) : Prop := l.length = 4 ∧ ∀ x ∈ l, 0 ≤ x ∧ x ≤ 200000000999999
instance (l : List Int) : Decidable (FS l) := by unfold FS; infer_instance
theorem fs_i (k : Nat) (hk : 5 ≤ k) (l : List Int) : impl_fourStamps.f k l = some (decide (FS l)) := by
  unfold impl_fourStamps.f FS
  by_cases c : l.length = 4
  · rw [if_pos (by omega), cf_ok l (by omega) k (by omega)]
    simp only [Option.bind_some, Bool.not_not, c, true_and]
  · rw [if_neg (by omega)]
    simp only [c, false_and, decide_false]
theorem FS.cases {l : List Int} (h : FS l) : ∃ a b c d, l = [a, b, c, d] ∧ (0 ≤ a ∧ a ≤ 200000000999999) ∧ (0 ≤ b ∧ b ≤ 200000000999999) ∧ (0 ≤ c ∧ c ≤ 200000000999999) ∧ (0 ≤ d ∧ d ≤ 200000000999999) := by
  match l, h with
  | [a, b, c, d], h => exact ⟨a, b, c, d, rfl, h.2 a (by simp), h.2 b (by simp), h.2 c (by simp), h.2 d (by simp)⟩
theorem FS.mk4 {a b c d : Int} (ha : 0 ≤ a ∧ a ≤ 200000000999999) (hb : 0 ≤ b ∧ b ≤ 200000000999999) (hc : 0 ≤ c ∧ c ≤ 200000000999999) (hd : 0 ≤ d ∧ d ≤ 200000000999999) : FS [a, b, c, d] := by
  refine ⟨rfl, fun x hx => ?_⟩
  simp only [List.mem_cons, List.not_mem_nil, or_false] at hx
  rcases hx with rfl | rfl | rfl | rfl <;> assumption
theorem rd40 (a b c d : Int) : rd [a, b, c, d] 0 = a := rfl
theorem rd41 (a b c d : Int) : rd [a, b, c, d] 1 = b := rfl
theorem rd42 (a b c d : Int) : rd [a, b, c, d] 2 = c := rfl
theorem rd43 (a b c d : Int) : rd [a, b, c, d] 3 = d := rfl
theorem ln4 (a b c d : Int) : (([a, b, c, d] : List Int).length : Int) = 4 := rfl

/-- What DelayOf returns. -/
def DLf (l : List Int) : Int := if FS l then max (rd l 3 - rd l 0 - rd l 2 + rd l 1) 0 else -1
theorem dl_i (k : Nat) (hk : 5 ≤ k) (l : List Int) : impl_DelayOf.f k l = some (DLf l) := by
  unfold impl_DelayOf.f DLf
  simp only [fs_i k hk, Option.bind_some, decide_eq_true_eq, mx_eq]
  by_cases h : FS l
  · obtain ⟨a, b, c, d, rfl, ha, hb, hc, hd⟩ := h.cases
    rw [if_pos h, if_pos h, rd40, rd41, rd42, rd43, ln4, if_pos (by omega), if_pos (by omega), if_pos (by omega), if_pos (by omega)]
    have e : wrap64 ((wrap64 ((wrap64 (d - a)) - c)) + b) = d - a - c + b := by unfold wrap64; omega
    rw [e]
  · rw [if_neg h, if_neg h]

theorem all_go (l : List Int) (hl : l.length ≤ 4000000) (a b : Int) : ∀ (d k i : Nat), i + d = l.length → d < k →
    spec_allIn.l0 k l a b (i : Int) = some (decide (∀ x ∈ l.drop i, a ≤ x ∧ x ≤ b)) := by
  intro d
  induction d with
  | zero =>
    intro k i hi hk
    obtain ⟨k, rfl⟩ : ∃ m, k = m + 1 := ⟨k - 1, by omega⟩
    simp only [spec_allIn.l0]; rw [if_neg (by omega), List.drop_of_length_le (by omega)]; simp
  | succ d ih =>
    intro k i hi hk
    obtain ⟨k, rfl⟩ : ∃ m, k = m + 1 := ⟨k - 1, by omega⟩
    have hlt : i < l.length := by omega
    rw [List.drop_eq_getElem_cons hlt]
    simp only [spec_allIn.l0, inR, Option.bind_some, decide_eq_true_eq, rd_at hlt]
    rw [if_pos (by omega), if_pos (by omega)]
    by_cases c : a ≤ l[i] ∧ l[i] ≤ b
    · rw [if_pos c, w_succ hlt (by omega), ih k (i + 1) (by omega) (by omega)]
      congr 1
      rw [decide_eq_decide]
      refine ⟨fun h x hx => ?_, fun h x hx => h x (List.mem_cons_of_mem _ hx)⟩
      rcases List.mem_cons.mp hx with rfl | hx
      · exact c
      · exact h x hx
    · rw [if_neg c]
      simp only [List.mem_cons, forall_eq_or_imp, c, false_and, decide_false]
theorem all_ok (l : List Int) (hl : l.length ≤ 4000000) (k : Nat) (hk : l.length < k) (a b : Int) :
    spec_allIn.f k l a b = some (decide (∀ x ∈ l, a ≤ x ∧ x ≤ b)) := by
  unfold spec_allIn.f
  have := all_go l hl a b l.length k 0 (by omega) hk
  rwa [List.drop_zero] at this

theorem fs_s (k : Nat) (hk : 5 ≤ k) (l : List Int) : spec_validStamps.f k l = some (decide (FS l)) := by
  unfold spec_validStamps.f FS
  by_cases c : l.length = 4
  · rw [if_pos (by omega), all_ok l (by omega) k (by omega)]
    simp only [Option.bind_some, c, true_and]
  · rw [if_neg (by omega)]
    simp only [c, false_and, decide_false]

theorem dl_s (k : Nat) (hk : 5 ≤ k) (l : List Int) : spec_DelayOf.f k l = some (DLf l) := by
  unfold spec_DelayOf.f DLf
  simp only [fs_s k hk, Option.bind_some, decide_eq_true_eq, mx_eq]
  by_cases h : FS l
  · obtain ⟨a, b, c, d, rfl, ha, hb, hc, hd⟩ := h.cases
    rw [if_pos h, if_pos h, rd40, rd41, rd42, rd43, ln4, if_pos (by omega), if_pos (by omega), if_pos (by omega), if_pos (by omega)]
    have e : wrap64 ((wrap64 ((wrap64 (d - a)) - c)) + b) = d - a - c + b := by unfold wrap64; omega
    rw [e, Int.max_comm]
  · rw [if_neg h, if_neg h]

theorem floor_eq (a b : Int) (hb : 0 < b) : (if Int.tmod a b < 0 then Int.tdiv a b - 1 else Int.tdiv a b) = a / b := by
  by_cases ha : 0 ≤ a
  · rw [Int.tmod_eq_emod_of_nonneg ha, Int.tdiv_eq_ediv_of_nonneg ha, if_neg (by have := Int.emod_nonneg a (show b ≠ 0 by omega); omega)]
  · obtain ⟨n, rfl⟩ : ∃ n, a = -n := ⟨-a, by omega⟩
    have hn : 0 ≤ n := by omega
    rw [Int.neg_tdiv, Int.neg_tmod, Int.tmod_eq_emod_of_nonneg hn, Int.tdiv_eq_ediv_of_nonneg hn]
    have e1 := Int.mul_ediv_add_emod n b
    have e2 := Int.emod_nonneg n (show b ≠ 0 by omega)
    have e3 := Int.emod_lt_of_pos n hb
    generalize n / b = q at *
    generalize n % b = r at *
    by_cases h : r = 0
    · rw [if_neg (by omega)]
      exact (((Int.ediv_emod_unique (a := -n) (r := 0) (q := -q) hb).mpr ⟨by rw [Int.mul_neg]; omega, by omega, by omega⟩).1).symm
    · rw [if_pos (by omega)]
      exact (((Int.ediv_emod_unique (a := -n) (r := b - r) (q := -q - 1) hb).mpr ⟨by rw [Int.mul_sub, Int.mul_neg, Int.mul_one]; omega, by omega, by omega⟩).1).symm
theorem ediv_bd (a b : Int) (hb : 0 < b) : -(max a (-a)) - 1 ≤ a / b ∧ a / b ≤ max a (-a) := by
  constructor
  · have h := Int.le_ediv_of_mul_le (a := -(max a (-a))) (b := a) (c := b) hb (by
      have : -(max a (-a)) * b ≤ -(max a (-a)) * 1 := Int.mul_le_mul_of_nonpos_left (by omega) (by omega)
      omega)
    omega
  · by_cases ha : 0 ≤ a
    · have := Int.ediv_le_self b ha; omega
    · have := Int.ediv_neg_of_neg_of_pos (show a < 0 by omega) hb; omega
theorem floor_i (a b : Int) (hb : 0 < b) (ha : -4611686018427387904 ≤ a ∧ a ≤ 4611686018427387904) : impl_floor.f a b = some (a / b) := by
  have h := floor_eq a b hb
  have hd := ediv_bd a b hb
  unfold impl_floor.f
  rw [if_neg (by omega)]
  by_cases c : Int.tmod a b < 0
  · rw [if_pos c] at h
    have e : wrap64 (Int.tdiv a b) = Int.tdiv a b := by unfold wrap64; omega
    rw [if_pos c, e, h]; congr 1; unfold wrap64; omega
  · rw [if_neg c] at h
    rw [if_neg c, h]; congr 1; unfold wrap64; omega

/-- What OffsetOf returns. -/
def OFf (l : List Int) : Int × Bool := if FS l then ((rd l 1 - rd l 0 + rd l 2 - rd l 3) / 2, true) else (0, false)
theorem of_i (k : Nat) (hk : 5 ≤ k) (l : List Int) : impl_OffsetOf.f k l = some (OFf l) := by
  unfold impl_OffsetOf.f OFf
  simp only [fs_i k hk, Option.bind_some, decide_eq_true_eq]
  by_cases h : FS l
  · obtain ⟨a, b, c, d, rfl, ha, hb, hc, hd⟩ := h.cases
    rw [if_pos h, if_pos h]
    simp only [rd40, rd41, rd42, rd43, ln4]
    rw [if_pos (by omega), if_pos (by omega), if_pos (by omega), if_pos (by omega)]
    have e : wrap64 ((wrap64 ((wrap64 (b - a)) + c)) - d) = b - a + c - d := by unfold wrap64; omega
    rw [e, floor_i _ _ (by omega) (by omega)]; rfl
  · rw [if_neg h, if_neg h]

theorem floor_s (a b : Int) (hb : 0 < b) (ha : -4611686018427387904 ≤ a ∧ a ≤ 4611686018427387904) : spec_floorDiv.f a b = some (a / b) := by
  have h := floor_eq a b hb
  have hd := ediv_bd a b hb
  unfold spec_floorDiv.f
  rw [if_neg (by omega)]
  by_cases c : Int.tmod a b < 0
  · rw [if_pos c] at h
    have e : wrap64 (Int.tdiv a b) = Int.tdiv a b := by unfold wrap64; omega
    rw [if_pos c, e, h]; congr 1; unfold wrap64; omega
  · rw [if_neg c] at h
    rw [if_neg c, h]; congr 1; unfold wrap64; omega

theorem of_s (k : Nat) (hk : 5 ≤ k) (l : List Int) : spec_OffsetOf.f k l = some (OFf l) := by
  unfold spec_OffsetOf.f OFf
  simp only [fs_s k hk, Option.bind_some, decide_eq_true_eq]
  by_cases h : FS l
  · obtain ⟨a, b, c, d, rfl, ha, hb, hc, hd⟩ := h.cases
    rw [if_pos h, if_pos h]
    simp only [rd40, rd41, rd42, rd43, ln4]
    rw [if_pos (by omega), if_pos (by omega), if_pos (by omega), if_pos (by omega)]
    have e : wrap64 ((wrap64 ((wrap64 (b - a)) + c)) - d) = b - a + c - d := by unfold wrap64; omega
    rw [e, floor_s _ _ (by omega) (by omega)]; rfl
  · rw [if_neg h, if_neg h]

/-- What SpanOf returns. -/
def SPf (l : List Int) : Int × Int × Bool := if FS l ∧ -1000000 ≤ (OFf l).1 - (DLf l + 1) / 2 ∧ (OFf l).1 + (DLf l + 1) / 2 ≤ 1000000 then ((OFf l).1 - (DLf l + 1) / 2, (OFf l).1 + (DLf l + 1) / 2, true) else (0, 0, false)
theorem sp_bd {l : List Int} (h : FS l) : (OFf l).2 = true ∧ (-600000000000000 ≤ (OFf l).1 ∧ (OFf l).1 ≤ 600000000000000) ∧ (0 ≤ DLf l ∧ DLf l ≤ 600000000000000) := by
  obtain ⟨a, b, c, d, rfl, ha, hb, hc, hd⟩ := h.cases
  unfold OFf DLf
  rw [if_pos h, if_pos h]
  simp only [rd40, rd41, rd42, rd43]
  refine ⟨trivial, ?_, ?_⟩ <;> omega
theorem sp_off {l : List Int} (h : ¬ FS l) : OFf l = (0, false) := by unfold OFf; rw [if_neg h]
theorem sv_i (x y : Int) (h : x ≤ y) : impl_spanValid.f x y = some (decide (-1000000 ≤ x ∧ y ≤ 1000000)) := by
  unfold impl_spanValid.f
  simp only [wiT, Option.bind_some, decide_eq_true_eq]
  by_cases c : -1000000 ≤ x ∧ x ≤ 1000000
  · rw [if_pos c]; congr 1; exact decide_eq_decide.mpr (by omega)
  · rw [if_neg c]; congr 1; symm; exact decide_eq_false (by omega)
theorem sv_s (x y : Int) (h : x ≤ y) : spec_validSpan.f x y = some (decide (-1000000 ≤ x ∧ y ≤ 1000000)) := by
  unfold spec_validSpan.f
  simp only [inR, Option.bind_some, decide_eq_true_eq]
  by_cases c : -1000000 ≤ x ∧ x ≤ 1000000
  · rw [if_pos c]; congr 1; exact decide_eq_decide.mpr (by omega)
  · rw [if_neg c]; congr 1; symm; exact decide_eq_false (by omega)
theorem sp_w {n d : Int} (hn : -600000000000000 ≤ n ∧ n ≤ 600000000000000) (hd : 0 ≤ d ∧ d ≤ 600000000000000) :
    wrap64 (n - wrap64 (Int.tdiv (wrap64 (d + 1)) 2)) = n - (d + 1) / 2 ∧ wrap64 (n + wrap64 (Int.tdiv (wrap64 (d + 1)) 2)) = n + (d + 1) / 2 := by
  have w1 : wrap64 (d + 1) = d + 1 := by unfold wrap64; omega
  have w2 : Int.tdiv (d + 1) 2 = (d + 1) / 2 := Int.tdiv_eq_ediv_of_nonneg (by omega)
  rw [w1, w2]; unfold wrap64; omega
theorem sp_i (k : Nat) (hk : 5 ≤ k) (l : List Int) : impl_SpanOf.f k l = some (SPf l) := by
  unfold impl_SpanOf.f SPf
  simp only [of_i k hk, dl_i k hk, Option.bind_some]
  by_cases h : FS l
  · obtain ⟨e, hn, hd⟩ := sp_bd h
    obtain ⟨w1, w2⟩ := sp_w hn hd
    simp only [e, if_true, w1, w2]
    rw [sv_i _ _ (by omega)]
    simp only [Option.bind_some, decide_eq_true_eq]
    by_cases v : -1000000 ≤ (OFf l).1 - (DLf l + 1) / 2 ∧ (OFf l).1 + (DLf l + 1) / 2 ≤ 1000000
    · rw [if_pos v, if_pos ⟨h, v⟩]
    · rw [if_neg v, if_neg (fun q => v q.2)]
  · rw [sp_off h, if_neg (by decide), if_neg (fun q => h q.1)]
theorem sp_s (k : Nat) (hk : 5 ≤ k) (l : List Int) : spec_SpanOf.f k l = some (SPf l) := by
  unfold spec_SpanOf.f SPf
  simp only [of_s k hk, dl_s k hk, Option.bind_some]
  by_cases h : FS l
  · obtain ⟨e, hn, hd⟩ := sp_bd h
    obtain ⟨w1, w2⟩ := sp_w hn hd
    simp only [e, if_true, w1, w2]
    rw [sv_s _ _ (by omega)]
    simp only [Option.bind_some, decide_eq_true_eq]
    by_cases v : -1000000 ≤ (OFf l).1 - (DLf l + 1) / 2 ∧ (OFf l).1 + (DLf l + 1) / 2 ≤ 1000000
    · rw [if_pos v, if_pos ⟨h, v⟩]
    · rw [if_neg v, if_neg (fun q => v q.2)]
  · rw [sp_off h, if_neg (by decide), if_neg (fun q => h q.1)]

theorem xor_nn (a b : Nat) (ha : a < 4611686018427387904) (hb : b < 4611686018427387904) :
    Go.bits .xor .i64 (a : Int) (b : Int) = ((a ^^^ b : Nat) : Int) := by
  have hx : a ^^^ b < 2 ^ 62 := Nat.xor_lt_two_pow (by omega) (by omega)
  have h1 : (BitVec.ofInt 64 (a : Int)).toNat = a := by
    rw [BitVec.ofInt_natCast, BitVec.toNat_ofNat]; exact Nat.mod_eq_of_lt (by omega)
  have h2 : (BitVec.ofInt 64 (b : Int)).toNat = b := by
    rw [BitVec.ofInt_natCast, BitVec.toNat_ofNat]; exact Nat.mod_eq_of_lt (by omega)
  show IntKind.i64.wrap ((BitVec.ofInt 64 (a : Int) ^^^ BitVec.ofInt 64 (b : Int)).toNat : Int) = _
  rw [BitVec.toNat_xor, h1, h2]
  simp [IntKind.wrap, IntKind.bits, IntKind.signed]
  omega
theorem xor_nonneg (a b : Int) (ha : 0 ≤ a) (ha2 : a < 4611686018427387904) (hb : 0 ≤ b) (hb2 : b < 4611686018427387904) :
    0 ≤ Go.bits .xor .i64 a b := by
  obtain ⟨m, rfl⟩ := Int.eq_ofNat_of_zero_le ha
  obtain ⟨n, rfl⟩ := Int.eq_ofNat_of_zero_le hb
  have := xor_nn m n (by omega) (by omega)
  try simp only [Int.ofNat_eq_natCast] at this ⊢
  rw [this]; omega
/-- What a reader's bytes are. -/
def Byts (b : List Int) : Prop := b.length ≤ 2000 ∧ ∀ x ∈ b, 0 ≤ x ∧ x ≤ 255
theorem Byts.get {b : List Int} (h : Byts b) (i : Int) : 0 ≤ rd b i ∧ rd b i ≤ 255 := by
  unfold rd
  rw [List.getD_eq_getElem?_getD]
  by_cases hi : i.toNat < b.length
  · rw [List.getElem?_eq_getElem hi]; exact h.2 _ (List.getElem_mem hi)
  · rw [List.getElem?_eq_none (by omega)]; simp
theorem pick_ok (k : Nat) (hk : 1 ≤ k) {b : List Int} (hb : Byts b) {p : Int} (hp : 0 ≤ p) (hp2 : p ≤ 1000000) (n : Int) :
    ∃ v, spec_reader_pick.f k b p n = some (v, p + 1) ∧ 0 ≤ v ∧ (1 ≤ n → v < n) ∧ (n < 1 → v = 0) := by
  obtain ⟨k, rfl⟩ : ∃ m, k = m + 1 := ⟨k - 1, by omega⟩
  have hl := hb.1
  have w1 : wrap64 (p + 1) = p + 1 := by unfold wrap64; omega
  have w2 : wrap64 (p + 1 - 1) = p := by unfold wrap64; omega
  unfold spec_reader_pick.f
  rw [w1]
  by_cases hn : n < 1
  · rw [if_pos hn]
    exact ⟨0, by simp [spec_reader_pick.j0], by omega, by omega, fun _ => rfl⟩
  · rw [if_neg hn]
    by_cases he : (b.length : Int) = 0
    · refine ⟨0, ?_, by omega, by omega, fun _ => rfl⟩
      rw [show ((b.length : Int) == 0) = true by simpa using he]
      simp [spec_reader_pick.j0]
    · rw [show ((b.length : Int) == 0) = false by simpa using he]
      simp only [spec_reader_pick.j0, w2, if_neg (show ¬ (false = true) by decide), if_pos hp, if_neg (show ¬ n = 0 by omega)]
      by_cases hlt : p < (b.length : Int)
      · obtain ⟨r0, r1⟩ := hb.get p
        have w3 : wrap64 (rd b p) = rd b p := by unfold wrap64; omega
        rw [if_pos hlt, w3, Int.tmod_eq_emod_of_nonneg r0]
        exact ⟨_, rfl, Int.emod_nonneg _ (by omega), fun _ => Int.emod_lt_of_pos _ (by omega), fun _ => by omega⟩
      · have e1 := Int.tmod_eq_emod_of_nonneg (b := (b.length : Int)) hp
        have e2 : wrap64 (wrap64 (p * 7) + 3) = p * 7 + 3 := by unfold wrap64; omega
        have e3 := Int.tmod_eq_emod_of_nonneg (b := (b.length : Int)) (a := p * 7 + 3) (by omega)
        have e4 := Int.tdiv_eq_ediv_of_nonneg (b := (b.length : Int)) hp
        have n1 := Int.emod_nonneg p he
        have n2 := Int.emod_lt_of_pos p (show 0 < (b.length : Int) by omega)
        have n3 := Int.emod_nonneg (p * 7 + 3) he
        have n4 := Int.emod_lt_of_pos (p * 7 + 3) (show 0 < (b.length : Int) by omega)
        have n5 : 0 ≤ p / (b.length : Int) := Int.ediv_nonneg hp (by omega)
        have n6 : p / (b.length : Int) ≤ p := Int.ediv_le_self _ hp
        rw [if_neg hlt, if_neg he, e2, e1, e3, e4, if_pos n1, if_pos n2, if_pos n3, if_pos n4]
        obtain ⟨r0, r1⟩ := hb.get (p % (b.length : Int))
        obtain ⟨q0, q1⟩ := hb.get ((p * 7 + 3) % (b.length : Int))
        generalize rd b (p % (b.length : Int)) = x at *
        generalize rd b ((p * 7 + 3) % (b.length : Int)) = y at *
        generalize p / (b.length : Int) = z at *
        have w3 : wrap64 (wrap64 (wrap64 (wrap64 (wrap64 x * 131) + wrap64 (wrap64 y * 1117)) + wrap64 (p * 29)) + wrap64 (wrap64 z * 53)) = x * 131 + y * 1117 + p * 29 + z * 53 := by unfold wrap64; omega
        rw [w3]
        have w4 : wrap64 (Int.tdiv (x * 131 + y * 1117 + p * 29 + z * 53) 64) = (x * 131 + y * 1117 + p * 29 + z * 53) / 64 := by
          rw [Int.tdiv_eq_ediv_of_nonneg (by omega)]; unfold wrap64; omega
        rw [w4]
        have hx := xor_nonneg (x * 131 + y * 1117 + p * 29 + z * 53) ((x * 131 + y * 1117 + p * 29 + z * 53) / 64) (by omega) (by omega) (by omega) (by omega)
        rw [Int.tmod_eq_emod_of_nonneg hx]
        exact ⟨_, rfl, Int.emod_nonneg _ (by omega), fun _ => Int.emod_lt_of_pos _ (by omega), fun _ => by omega⟩

theorem reader_ok (l : List Int) (h : ∀ x ∈ l, (Lit.int .u8 x).wf = true) : ∃ b, spec_newReader.f l = some (b, 0) ∧ Byts b := by
  have h' : ∀ x ∈ l, 0 ≤ x ∧ x ≤ 255 := fun x hx => by
    have := h x hx
    simp [Lit.wf, IntKind.min, IntKind.max, IntKind.bits, IntKind.signed] at this
    omega
  unfold spec_newReader.f
  by_cases c : (l.length : Int) > 2000
  · rw [if_pos c, if_pos (by omega)]
    exact ⟨_, rfl, by simp; omega, fun x hx => h' x (List.mem_of_mem_take hx)⟩
  · rw [if_neg c]
    exact ⟨_, rfl, by omega, h'⟩

theorem one_ok (k : Nat) (hk : 1 ≤ k) {b : List Int} (hb : Byts b) {p : Int} (hp : 0 ≤ p) (hp2 : p ≤ 1000000) (l : List Int) (hl : l ≠ []) :
    ∃ v, spec_reader_one.f k b p l = some (v, p + 1) ∧ v ∈ l := by
  have hlen : 1 ≤ l.length := List.length_pos_iff.mpr hl
  obtain ⟨i, hi, h0, h1, h2⟩ := pick_ok k hk hb hp hp2 (l.length : Int)
  have h1 := h1 (by omega)
  unfold spec_reader_one.f
  rw [hi]
  simp only [Option.bind_some]
  rw [if_pos h0, if_pos h1]
  refine ⟨_, rfl, ?_⟩
  unfold rd
  rw [List.getD_eq_getElem?_getD, List.getElem?_eq_getElem (by omega)]
  exact List.getElem_mem _


theorem somestamp_ok (k : Nat) (hk : 1 ≤ k) {b : List Int} (hb : Byts b) {p : Int} (hp : 0 ≤ p) (hp2 : p ≤ 900000) :
    ∃ v, spec_someStamp.f k b p = some (v, p + 3) ∧ 0 ≤ v ∧ v ≤ 249000001743 * 1000 := by
  unfold spec_someStamp.f
  obtain ⟨v1, h1, m1⟩ := pick_ok k hk hb hp (by omega) 250
  rw [h1]; simp only [Option.bind_some]
  obtain ⟨v2, h2, m2⟩ := pick_ok k hk hb (p := p + 1) (by omega) (by omega) 250
  rw [h2]; simp only [Option.bind_some]
  have e1 : wrap64 (1000 * v1) = 1000 * v1 := by unfold wrap64; omega
  have e2 : wrap64 (1000000007 * v2) = 1000000007 * v2 := by unfold wrap64; omega
  rw [e1, e2]
  obtain ⟨v3, h3, m3⟩ := one_ok k hk hb (p := p + 1 + 1) (by omega) (by omega) ([0, 1, 999999, 1000000, 200000000999999, 123456789012, 1000 * v1, 1000000007 * v2]) (by simp)
  rw [h3]; simp only [Option.bind_some]
  refine ⟨v3, by rw [show p + 1 + 1 + 1 = p + 3 by omega], ?_⟩
  simp only [List.mem_cons, List.not_mem_nil, or_false] at m3
  omega

theorem someoffset_ok (k : Nat) (hk : 1 ≤ k) {b : List Int} (hb : Byts b) {p : Int} (hp : 0 ≤ p) (hp2 : p ≤ 900000) :
    ∃ v, spec_someOffset.f k b p = some (v, p + 2) ∧ -1000000 ≤ v ∧ v ≤ 1000000 := by
  unfold spec_someOffset.f
  obtain ⟨v1, h1, m1, m2, _⟩ := pick_ok k hk hb hp (by omega) 250
  have m2 := m2 (by omega)
  rw [h1]; simp only [Option.bind_some]
  have e1 : wrap64 (40 * (wrap64 (v1 - 125))) = 40 * (v1 - 125) := by unfold wrap64; omega
  rw [e1]
  obtain ⟨v2, h2, m3⟩ := one_ok k hk hb (p := p + 1) (by omega) (by omega) ([0, 1, (-1), 100, (-250), 5000, 128000, 128001, (-128000), 1000000, (-1000000), 40 * (v1 - 125)]) (by simp)
  rw [h2]; simp only [Option.bind_some]
  refine ⟨v2, by rw [show p + 1 + 1 = p + 2 by omega], ?_⟩
  simp only [List.mem_cons, List.not_mem_nil, or_false] at m3
  omega

theorem copy_ok (l : List Int) (h : l.length ≤ 1000000) : spec_copyInts.f l = some l := by
  unfold spec_copyInts.f
  simp only [Option.bind_some]
  rw [if_pos (by simp; omega), List.nil_append]
theorem spoil_ok (k : Nat) (hk : 1 ≤ k) {b : List Int} (hb : Byts b) {p : Int} (hp : 0 ≤ p) (hp2 : p ≤ 900000) (l : List Int) (hl : l.length ≤ 1000) (n : Int) :
    ∃ r q, spec_reader_spoil.f k b p l n = some (r, q) ∧ r.length ≤ l.length + 1 ∧ p ≤ q ∧ q ≤ p + 3 := by
  unfold spec_reader_spoil.f
  rw [copy_ok l (by omega), Option.bind_some]
  obtain ⟨v1, h1, m1⟩ := pick_ok k hk hb hp (by omega) 20
  rw [h1]; simp only [Option.bind_some]
  by_cases c0 : v1 = 0
  · rw [if_pos c0, if_pos (by omega)]
    exact ⟨_, _, rfl, by simp, by omega, by omega⟩
  · rw [if_neg c0]
    by_cases c1 : v1 = 1
    · rw [if_pos c1]
      by_cases e : (l.length : Int) > 0
      · rw [if_pos e, if_pos (by omega)]
        exact ⟨_, _, rfl, by simp; omega, by omega, by omega⟩
      · rw [if_neg e]
        exact ⟨_, _, rfl, by omega, by omega, by omega⟩
    · rw [if_neg c1]
      by_cases c2 : v1 = 2
      · rw [if_pos c2]
        by_cases e : (l.length : Int) > 0
        · rw [if_pos e]
          obtain ⟨v2, h2, m2, m3, _⟩ := pick_ok k hk hb (p := p + 1) (by omega) (by omega) (l.length : Int)
          rw [h2]; simp only [Option.bind_some]
          obtain ⟨v3, h3, _⟩ := one_ok k hk hb (p := p + 1 + 1) (by omega) (by omega) ([(-1), n, 0, 1]) (by simp)
          rw [h3]; simp only [Option.bind_some]
          have m3 := m3 (by omega)
          rw [if_pos m2, if_pos m3]
          exact ⟨_, _, rfl, by simp, by omega, by omega⟩
        · rw [if_neg e]
          exact ⟨_, _, rfl, by omega, by omega, by omega⟩
      · rw [if_neg c2]
        exact ⟨_, _, rfl, by omega, by omega, by omega⟩

theorem somestamps_ok (k : Nat) (hk : 1 ≤ k) {b : List Int} (hb : Byts b) {p : Int} (hp : 0 ≤ p) (hp2 : p ≤ 800000) : ∃ r q, spec_someStamps.f k b p = some (r, q) ∧ r.length ≤ 5 ∧ p ≤ q ∧ q ≤ p + 20 := by
  unfold spec_someStamps.f
  obtain ⟨v1, h1, _⟩ := somestamp_ok k hk hb hp (by omega)
  rw [h1]; simp only [Option.bind_some]
  obtain ⟨v2, h2, _⟩ := someoffset_ok k hk hb (p := p + 3) (by omega) (by omega)
  rw [h2]; simp only [Option.bind_some]
  obtain ⟨v3, h3, _⟩ := pick_ok k hk hb (p := p + 3 + 2) (by omega) (by omega) 250
  rw [h3]; simp only [Option.bind_some]
  obtain ⟨v4, h4, _⟩ := pick_ok k hk hb (p := p + 3 + 2 + 1) (by omega) (by omega) 100
  rw [h4]; simp only [Option.bind_some]
  obtain ⟨v5, h5, _⟩ := pick_ok k hk hb (p := p + 3 + 2 + 1 + 1) (by omega) (by omega) 250
  rw [h5]; simp only [Option.bind_some]
  generalize wrap64 (1000000 + (wrap64 (Int.tdiv v1 2))) = x1
  generalize mx 0 (wrap64 ((wrap64 (x1 + (wrap64 (v3 * 4)))) + v2)) = x2
  generalize mx 0 (wrap64 ((wrap64 ((wrap64 (x1 + (wrap64 (v3 * 4)))) + v2)) + v4)) = x3
  generalize wrap64 ((wrap64 ((wrap64 (x1 + (wrap64 (v3 * 4)))) + v4)) + (wrap64 (v5 * 4))) = x4
  obtain ⟨r, q, h6, l1, l2, l3⟩ := spoil_ok k hk hb (p := p + 3 + 2 + 1 + 1 + 1) (by omega) (by omega) ([x1, x2, x3, x4]) (by simp) 200000001000000
  rw [h6]
  exact ⟨r, q, rfl, by simpa using l1, by omega, by omega⟩
theorem drawSpanOf_ok (k : Nat) (hk : 1 ≤ k) (l : List Int) (h : ∀ x ∈ l, (Lit.int .u8 x).wf = true) : ∃ r, spec_DrawSpanOf.f k l = some r := by
  obtain ⟨b, hr, hb⟩ := reader_ok l h
  obtain ⟨r, q, hs, _, _, _⟩ := somestamps_ok k hk hb (p := 0) (by omega) (by omega)
  exact ⟨r, by unfold spec_DrawSpanOf.f; rw [hr]; simp only [Option.bind_some]; rw [hs]; rfl⟩

theorem FnSpanOfWide : laws_FnSpanOfWide.Pure := by
  intro l0 _ _ hw
  refine ⟨20, ?_⟩
  unfold laws_FnSpanOfWide.f
  by_cases c : (l0.length : Int) > 1048576
  · rw [if_pos c]
  · rw [if_neg c]
    obtain ⟨l, hd⟩ := drawSpanOf_ok 20 (by omega) l0 hw
    rw [hd]
    simp only [Option.bind_some, sp_i 20 (by omega), sp_s 20 (by omega), bne_self_eq_false, beq_self_eq_true, Bool.not_true, Bool.or_self, Bool.and_self, if_true, if_neg (show ¬ (false = true) by decide)]
    by_cases s2 : (SPf l).2.2 = true
    · have h : FS l := by
        by_cases h : FS l
        · exact h
        · unfold SPf at s2; rw [if_neg (fun q => h q.1)] at s2; exact absurd s2 (by decide)
      rw [if_pos s2]
      obtain ⟨a, b, c, d, rfl, ha, hb, hc, hd⟩ := h.cases
      have w1 : wrap64 (d + 20) = d + 20 := by unfold wrap64; omega
      simp only [rd40, rd41, rd42, rd43, ln4, w1]
      rw [if_pos (by omega)]
      by_cases h1 : d + 20 > 200000000999999
      · rw [if_pos h1]
      · rw [if_neg h1, if_pos (by omega), if_pos (by omega), if_pos (by omega)]
        by_cases s3 : (SPf [a, b, c, d + 20]).2.2 = true
        · rw [if_pos s3]
          have hF := FS.mk4 ha hb hc (show 0 ≤ d + 20 ∧ d + 20 ≤ 200000000999999 by omega)
          have b1 := sp_bd h
          have b2 := sp_bd hF
          have e1 : DLf [a, b, c, d] = max (d - a - c + b) 0 := by unfold DLf; rw [if_pos h]; rfl
          have f1 : DLf [a, b, c, d + 20] = max (d + 20 - a - c + b) 0 := by unfold DLf; rw [if_pos hF]; rfl
          have g1 : (SPf [a, b, c, d]).2.1 - (SPf [a, b, c, d]).1 = 2 * ((DLf [a, b, c, d] + 1) / 2) := by
            unfold SPf at s2 ⊢
            by_cases q : FS [a, b, c, d] ∧ -1000000 ≤ (OFf [a, b, c, d]).1 - (DLf [a, b, c, d] + 1) / 2 ∧ (OFf [a, b, c, d]).1 + (DLf [a, b, c, d] + 1) / 2 ≤ 1000000
            · rw [if_pos q]; show _ + _ - (_ - _) = _; omega
            · rw [if_neg q] at s2; exact absurd s2 (by decide)
          have g2 : (SPf [a, b, c, d + 20]).2.1 - (SPf [a, b, c, d + 20]).1 = 2 * ((DLf [a, b, c, d + 20] + 1) / 2) := by
            unfold SPf at s3 ⊢
            by_cases q : FS [a, b, c, d + 20] ∧ -1000000 ≤ (OFf [a, b, c, d + 20]).1 - (DLf [a, b, c, d + 20] + 1) / 2 ∧ (OFf [a, b, c, d + 20]).1 + (DLf [a, b, c, d + 20] + 1) / 2 ≤ 1000000
            · rw [if_pos q]; show _ + _ - (_ - _) = _; omega
            · rw [if_neg q] at s3; exact absurd s3 (by decide)
          rw [g1, g2]
          have v1 : wrap64 (2 * ((DLf [a, b, c, d] + 1) / 2)) = 2 * ((DLf [a, b, c, d] + 1) / 2) := by unfold wrap64; omega
          have v2 : wrap64 (2 * ((DLf [a, b, c, d + 20] + 1) / 2)) = 2 * ((DLf [a, b, c, d + 20] + 1) / 2) := by unfold wrap64; omega
          rw [v1, v2, e1, f1]
          simp only [Option.some.injEq, decide_eq_true_eq]; omega
        · rw [if_neg s3]
    · rw [if_neg s2]

end Go.Proofs.Ytjjdlocdcigfbaa.Pure
namespace Go.Proofs.Ytjjdlocdcigfbaa.PrintWords
/-- Under this name the row asks for it. -/
theorem sized_ints {H : Type} {enc : TypeId × Value → H} {P : Program} {W : World} {base : Nat} {spare : Nat → Bool} {held : Bool} {t e : TypeId} {k : IntKind} {a : Option Addr} {len cap : Nat} {d : DataW H} {ps : List MemPlace} {ts : List TypeId} {ds : List (DataW H)} {j : Nat}
    (hsz : (DataW.weightsEach P ts ds).all (· ≤ reachBytes) = true) (ht : ts[j]? = some t) (hd : ds[j]? = some d) (hu : P.underlying t = some (.slice e)) (he : P.underlying e = some (.int k)) (hc : P.cellsOf e = 1) {B : Nat} (hB : P.bytesOf e = B)
    (h : DataW.Trod enc P W base spare held t (.slice a len cap) d ps) : len * B ≤ 140737488351232 :=
  Go.Proofs.YtjjdlocdcigfbaaW.PrintWords.sized_ints hsz ht hd hu he hc hB h
end Go.Proofs.Ytjjdlocdcigfbaa.PrintWords
