/- DelayOf of the program returns what DelayOf of the reference returns, for every list of integers, and leaves its argument as it was. -/
import Derived.Test.YtijaknepdpmjbaaQFnExactDelayOfx0
import Derived.Test.YtijaknepdpmjbaaQFnExactDelayOfx1
import Derived.Test.YtijaknepdpmjbaaQFnExactDelayOfx2
import Derived.Test.YtijaknepdpmjbaaWSized
namespace Go.Proofs.Ytijaknepdpmjbaa.Pure
open Go.RowKit Go.Proofs.Ytijaknepdpmjbaa.QFnExactDelayOf Go.Proofs.YtijaknepdpmjbaaW.PrintWords Go.Proofs.YtijaknepdpmjbaaW.PrintLast Go.Proofs.YtijaknepdpmjbaaW.PrintMore
set_option linter.unusedVariables false
set_option linter.unusedSimpArgs false
theorem inR (a b c : Int) : spec_inRange.f a b c = some (decide (b ≤ a ∧ a ≤ c)) := by
  unfold spec_inRange.f; by_cases h : b ≤ a <;> simp [h]
theorem wiT (a b c : Int) : impl_within.f a b c = some (decide (b ≤ a ∧ a ≤ c)) := by
  unfold impl_within.f; by_cases h : b ≤ a <;> simp [h]

theorem rd_at {l : List Int} {i : Nat} (h : i < l.length) : rd l (i : Int) = l[i] := by
  unfold rd
  rw [List.getD_eq_getElem?_getD, Int.toNat_natCast, List.getElem?_eq_getElem h, Option.getD_some]
theorem w_succ {i n : Nat} (h : i < n) (hn : n ≤ 4611686018427387904) : wrap64 ((i : Int) + 1) = ((i + 1 : Nat) : Int) := by
  unfold wrap64; omega

theorem lit_ok (x : Int) : impl_fourStamps_lit1.f x = some (decide (¬ (0 ≤ x ∧ x ≤ 200000000999999))) := by
  unfold impl_fourStamps_lit1.f impl_isStamp.f
  simp only [wiT, Option.bind_some, decide_not]
theorem idx_ok (l : List Int) (hl : l.length ≤ 4000000) : ∀ (d k i : Nat), i + d = l.length → d < k →
    ∃ r, slices_IndexFunc_int_int.l0 k l (l.length : Int) (i : Int) = some r ∧ (0 ≤ r ↔ ∃ x ∈ l.drop i, ¬ (0 ≤ x ∧ x ≤ 200000000999999)) := by
  intro d
  induction d with
  | zero =>
    intro k i hi hk
    obtain ⟨k, rfl⟩ : ∃ m, k = m + 1 := ⟨k - 1, by omega⟩
    refine ⟨-1, ?_, ?_⟩
    · simp only [slices_IndexFunc_int_int.l0]; rw [if_neg (by omega)]
    · rw [List.drop_of_length_le (by omega)]; simp
  | succ d ih =>
    intro k i hi hk
    obtain ⟨k, rfl⟩ : ∃ m, k = m + 1 := ⟨k - 1, by omega⟩
    have hlt : i < l.length := by omega
    rw [List.drop_eq_getElem_cons hlt]
    simp only [slices_IndexFunc_int_int.l0, lit_ok, Option.bind_some, decide_eq_true_eq, rd_at hlt]
    rw [if_pos (by omega), if_pos (by omega), if_pos (by omega)]
    by_cases c : ¬ (0 ≤ l[i] ∧ l[i] ≤ 200000000999999)
    · rw [if_pos c]
      exact ⟨_, rfl, fun _ => ⟨l[i], List.mem_cons_self, c⟩, fun _ => by omega⟩
    · rw [if_neg c, w_succ hlt (by omega)]
      obtain ⟨r, hr, h⟩ := ih k (i + 1) (by omega) (by omega)
      refine ⟨r, hr, h.trans ⟨fun ⟨x, hx, hn⟩ => ⟨x, List.mem_cons_of_mem _ hx, hn⟩, fun ⟨x, hx, hn⟩ => ?_⟩⟩
      rcases List.mem_cons.mp hx with rfl | hx
      · exact absurd hn c
      · exact ⟨x, hx, hn⟩
theorem cf_ok (l : List Int) (hl : l.length ≤ 4000000) (k : Nat) (hk : l.length < k) :
    slices_ContainsFunc_int_int.f k l = some (!decide (∀ x ∈ l, 0 ≤ x ∧ x ≤ 200000000999999)) := by
  obtain ⟨r, hr, h⟩ := idx_ok l hl l.length k 0 (by omega) hk
  unfold slices_ContainsFunc_int_int.f slices_IndexFunc_int_int.f
  rw [show (0 : Int) = ((0 : Nat) : Int) from rfl, hr, Option.bind_some]
  congr 1
  rw [List.drop_zero] at h
  rw [← decide_not, decide_eq_decide]
  refine Iff.trans h ⟨fun ⟨x, hx, hn⟩ ha => hn (ha x hx), fun ha => ?_⟩
  rcases Classical.em (∃ x ∈ l, ¬ (0 ≤ x ∧ x ≤ 200000000999999)) with hc | hc
  · exact hc
  · exact absurd (fun x hx => Classical.byContradiction fun hn => hc ⟨x, hx, hn⟩) ha

theorem mn_eq (a b : Int) : mn a b = min a b := by unfold mn; omega
theorem mx_eq (a b : Int) : mx a b = max a b := by unfold mx; omega

/-- Four time stamps. -/
def FS (l : List Int) : Prop := l.length = 4 ∧ ∀ x ∈ l, 0 ≤ x ∧ x ≤ 200000000999999
instance (l : List Int) : Decidable (FS l) := by unfold FS; infer_instance
theorem fs_i (k : Nat) (hk : 5 ≤ k) (l : List Int) : impl_fourStamps.f k l = some (decide (FS l)) := by
  unfold impl_fourStamps.f FS
  by_cases c : l.length = 4
  · rw [if_pos (by omega), cf_ok l (by omega) k (by omega)]
    simp only [Option.bind_some, Bool.not_not, c, true_and]
  · rw [if_neg (by omega)]
    simp only [c, false_and, decide_false]
theorem FS.cases {l : List Int} (h : FS l) : ∃ a b c d, l = [a, b, c, d] ∧ (0 ≤ a ∧ a ≤ 200000000999999) ∧ (0 ≤ b ∧ b ≤ 200000000999999) ∧ (0 ≤ c ∧ c ≤ 200000000999999) ∧ (0 ≤ d ∧ d ≤ 200000000999999) := by
  match l, h with
  | [a, b, c, d], h => exact ⟨a, b, c, d, rfl, h.2 a (by simp), h.2 b (by simp), h.2 c (by simp), h.2 d (by simp)⟩
theorem FS.mk4 {a b c d : Int} (ha : 0 ≤ a ∧ a ≤ 200000000999999) (hb : 0 ≤ b ∧ b ≤ 200000000999999) (hc : 0 ≤ c ∧ c ≤ 200000000999999) (hd : 0 ≤ d ∧ d ≤ 200000000999999) : FS [a, b, c, d] := by
  refine ⟨rfl, fun x hx => ?_⟩
  simp only [List.mem_cons, List.not_mem_nil, or_false] at hx
  rcases hx with rfl | rfl | rfl | rfl <;> assumption
theorem rd40 (a b c d : Int) : rd [a, b, c, d] 0 = a := rfl
theorem rd41 (a b c d : Int) : rd [a, b, c, d] 1 = b := rfl
theorem rd42 (a b c d : Int) : rd [a, b, c, d] 2 = c := rfl
theorem rd43 (a b c d : Int) : rd [a, b, c, d] 3 = d := rfl
theorem ln4 (a b c d : Int) : (([a, b, c, d] : List Int).length : Int) = 4 := rfl

/-- What DelayOf returns. -/
def DLf (l : List Int) : Int := if FS l then max (rd l 3 - rd l 0 - rd l 2 + rd l 1) 0 else -1
theorem dl_i (k : Nat) (hk : 5 ≤ k) (l : List Int) : impl_DelayOf.f k l = some (DLf l) := by
  unfold impl_DelayOf.f DLf
  simp only [fs_i k hk, Option.bind_some, decide_eq_true_eq, mx_eq]
  by_cases h : FS l
  · obtain ⟨a, b, c, d, rfl, ha, hb, hc, hd⟩ := h.cases
    rw [if_pos h, if_pos h, rd40, rd41, rd42, rd43, ln4, if_pos (by omega), if_pos (by omega), if_pos (by omega), if_pos (by omega)]
    have e : wrap64 ((wrap64 ((wrap64 (d - a)) - c)) + b) = d - a - c + b := by unfold wrap64; omega
    rw [e]
  · rw [if_neg h, if_neg h]

theorem all_go (l : List Int) (hl : l.length ≤ 4000000) (a b : Int) : ∀ (d k i : Nat), i + d = l.length → d < k →
    spec_allIn.l0 k l a b (i : Int) = some (decide (∀ x ∈ l.drop i, a ≤ x ∧ x ≤ b)) := by
  intro d
  induction d with
  | zero =>
    intro k i hi hk
    obtain ⟨k, rfl⟩ : ∃ m, k = m + 1 := ⟨k - 1, by omega⟩
    simp only [spec_allIn.l0]; rw [if_neg (by omega), List.drop_of_length_le (by omega)]; simp
  | succ d ih =>
    intro k i hi hk
    obtain ⟨k, rfl⟩ : ∃ m, k = m + 1 := ⟨k - 1, by omega⟩
    have hlt : i < l.length := by omega
    rw [List.drop_eq_getElem_cons hlt]
    simp only [spec_allIn.l0, inR, Option.bind_some, decide_eq_true_eq, rd_at hlt]
    rw [if_pos (by omega), if_pos (by omega)]
    by_cases c : a ≤ l[i] ∧ l[i] ≤ b
    · rw [if_pos c, w_succ hlt (by omega), ih k (i + 1) (by omega) (by omega)]
      congr 1
      rw [decide_eq_decide]
      refine ⟨fun h x hx => ?_, fun h x hx => h x (List.mem_cons_of_mem _ hx)⟩
      rcases List.mem_cons.mp hx with rfl | hx
      · exact c
      · exact h x hx
    · rw [if_neg c]
      simp only [List.mem_cons, forall_eq_or_imp, c, false_and, decide_false]
theorem all_ok (l : List Int) (hl : l.length ≤ 4000000) (k : Nat) (hk : l.length < k) (a b : Int) :
    spec_allIn.f k l a b = some (decide (∀ x ∈ l, a ≤ x ∧ x ≤ b)) := by
  unfold spec_allIn.f
  have := all_go l hl a b l.length k 0 (by omega) hk
  rwa [List.drop_zero] at this

theorem fs_s (k : Nat) (hk : 5 ≤ k) (l : List Int) : spec_validStamps.f k l = some (decide (FS l)) := by
  unfold spec_validStamps.f FS
  by_cases c : l.length = 4
  · rw [if_pos (by omega), all_ok l (by omega) k (by omega)]
    simp only [Option.bind_some, c, true_and]
  · rw [if_neg (by omega)]
    simp only [c, false_and, decide_false]

theorem dl_s (k : Nat) (hk : 5 ≤ k) (l : List Int) : spec_DelayOf.f k l = some (DLf l) := by
  unfold spec_DelayOf.f DLf
  simp only [fs_s k hk, Option.bind_some, decide_eq_true_eq, mx_eq]
  by_cases h : FS l
  · obtain ⟨a, b, c, d, rfl, ha, hb, hc, hd⟩ := h.cases
    rw [if_pos h, if_pos h, rd40, rd41, rd42, rd43, ln4, if_pos (by omega), if_pos (by omega), if_pos (by omega), if_pos (by omega)]
    have e : wrap64 ((wrap64 ((wrap64 (d - a)) - c)) + b) = d - a - c + b := by unfold wrap64; omega
    rw [e, Int.max_comm]
  · rw [if_neg h, if_neg h]

theorem toIntS_go (l : List Int) (hl : l.length ≤ 4000000) : ∀ (d k i : Nat) (R : List Int), i + d = l.length → d < k → R.length = d → laws_toIntS.l0 k l (l.take i ++ R) (i : Int) = some l := by
  intro d
  induction d with
  | zero =>
    intro k i R hi hk hR
    obtain ⟨k, rfl⟩ : ∃ m, k = m + 1 := ⟨k - 1, by omega⟩
    obtain rfl := List.eq_nil_of_length_eq_zero hR
    simp only [laws_toIntS.l0]; rw [if_neg (by omega), List.append_nil, List.take_of_length_le (by omega)]
  | succ d ih =>
    intro k i R hi hk hR
    obtain ⟨k, rfl⟩ : ∃ m, k = m + 1 := ⟨k - 1, by omega⟩
    have hlt : i < l.length := by omega
    match R, hR with
    | r :: R, hR =>
      have hR : R.length = d := by simpa using hR
      have hX : (l.take i ++ r :: R).length = l.length := by simp; omega
      have hs : (l.take i ++ r :: R).set i l[i] = l.take (i + 1) ++ R := by
        rw [List.set_append_right _ _ (by simp; omega), show i - (l.take i).length = 0 by simp; omega, List.set_cons_zero, ← List.take_append_getElem hlt, List.append_assoc]; rfl
      simp only [laws_toIntS.l0, rd_at hlt]
      rw [if_pos (by omega), if_pos (by omega), if_pos (by rw [hX]; omega), Int.toNat_natCast, hs, w_succ hlt (by omega), ih k (i + 1) R (by omega) (by omega) hR]
theorem toIntS_ok (l : List Int) (hl : l.length ≤ 4000000) (k : Nat) (hk : l.length < k) : laws_toIntS.f k l = some l := by
  unfold laws_toIntS.f
  rw [if_pos (by omega), if_pos (by omega)]
  exact toIntS_go l hl l.length k 0 _ (by omega) hk (by simp)

theorem eqIntS_go (l : List Int) (hl : l.length ≤ 4000000) : ∀ (d k i : Nat), i + d = l.length → d < k → laws_eqIntS.l0 k l l (i : Int) = some true := by
  intro d
  induction d with
  | zero =>
    intro k i hi hk
    obtain ⟨k, rfl⟩ : ∃ m, k = m + 1 := ⟨k - 1, by omega⟩
    simp only [laws_eqIntS.l0]; rw [if_neg (by omega)]
  | succ d ih =>
    intro k i hi hk
    obtain ⟨k, rfl⟩ : ∃ m, k = m + 1 := ⟨k - 1, by omega⟩
    have hlt : i < l.length := by omega
    simp only [laws_eqIntS.l0, if_true]
    rw [if_pos (by omega), if_pos (by omega), if_pos (by omega), w_succ hlt (by omega), ih k (i + 1) (by omega) (by omega)]
theorem eqIntS_refl (l : List Int) (hl : l.length ≤ 4000000) (k : Nat) (hk : l.length < k) : laws_eqIntS.f k l l = some true := by
  unfold laws_eqIntS.f
  rw [if_pos rfl]
  exact eqIntS_go l hl l.length k 0 (by omega) hk

theorem FnExactDelayOf : laws_FnExactDelayOf.Pure := by
  intro l _ _ hw
  refine ⟨l.length + 60, ?_⟩
  unfold laws_FnExactDelayOf.f
  by_cases c : (l.length : Int) > 1048576
  · rw [if_pos c]
  · rw [if_neg c, toIntS_ok l (by omega) _ (by omega)]
    simp only [Option.bind_some, dl_i (l.length + 60) (by omega), dl_s (l.length + 60) (by omega), if_true, eqIntS_refl l (by omega) (l.length + 60) (by omega)]

end Go.Proofs.Ytijaknepdpmjbaa.Pure
namespace Go.Proofs.Ytijaknepdpmjbaa.PrintWords
/-- Under this name the row asks for it. -/
theorem sized_ints {H : Type} {enc : TypeId × Value → H} {P : Program} {W : World} {base : Nat} {spare : Nat → Bool} {held : Bool} {t e : TypeId} {k : IntKind} {a : Option Addr} {len cap : Nat} {d : DataW H} {ps : List MemPlace} {ts : List TypeId} {ds : List (DataW H)} {j : Nat}
    (hsz : (DataW.weightsEach P ts ds).all (· ≤ reachBytes) = true) (ht : ts[j]? = some t) (hd : ds[j]? = some d) (hu : P.underlying t = some (.slice e)) (he : P.underlying e = some (.int k)) (hc : P.cellsOf e = 1) {B : Nat} (hB : P.bytesOf e = B)
    (h : DataW.Trod enc P W base spare held t (.slice a len cap) d ps) : len * B ≤ 140737488351232 :=
  Go.Proofs.YtijaknepdpmjbaaW.PrintWords.sized_ints hsz ht hd hu he hc hB h
end Go.Proofs.Ytijaknepdpmjbaa.PrintWords
