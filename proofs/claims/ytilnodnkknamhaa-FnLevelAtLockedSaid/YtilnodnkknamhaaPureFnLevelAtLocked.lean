/- For every list of bytes: of the state, the time and the error that are drawn from it, LevelAt at once behind SeenAgain with a small error is LevelLocked, as the law says. -/
import Derived.Test.YtilnodnkknamhaaPFnLevelAtLockedx0
import Derived.Test.YtilnodnkknamhaaPFnLevelAtLockedx1
import Derived.Test.YtilnodnkknamhaaPFnLevelAtLockedx2
import Derived.Test.YtilnodnkknamhaaPFnLevelAtLockedx3
import Derived.Test.YtilnodnkknamhaaPFnLevelAtLockedx4
import Derived.Test.YtilnodnkknamhaaWSized
namespace Go.Proofs.Ytilnodnkknamhaa.Pure
open Go.RowKit Go.Proofs.Ytilnodnkknamhaa.PFnLevelAtLocked Go.Proofs.YtilnodnkknamhaaW.PrintWords Go.Proofs.YtilnodnkknamhaaW.PrintLast Go.Proofs.YtilnodnkknamhaaW.PrintMore
set_option linter.unusedVariables false
set_option linter.unusedSimpArgs false
theorem inR (a b c : Int) : spec_inRange.f a b c = some (decide (b ≤ a ∧ a ≤ c)) := by
  unfold spec_inRange.f; by_cases h : b ≤ a <;> simp [h]
theorem wiT (a b c : Int) : impl_within.f a b c = some (decide (b ≤ a ∧ a ≤ c)) := by
  unfold impl_within.f; by_cases h : b ≤ a <;> simp [h]

/-- A valid state, in numbers. -/
def VS (e w s : Int) : Prop := (0 ≤ e ∧ e ≤ 1000000) ∧ (0 ≤ w ∧ w ≤ 1000) ∧ (0 ≤ s ∧ s ≤ 3786479999)
instance (e w s : Int) : Decidable (VS e w s) := by unfold VS; infer_instance
theorem ivs (e w s : Int) : impl_ValidState.f e w s = some (decide (VS e w s)) := by
  unfold impl_ValidState.f impl_isTime.f VS
  simp only [wiT, Option.bind_some, decide_eq_true_eq]
  by_cases h1 : 0 ≤ e ∧ e ≤ 1000000 <;> by_cases h2 : 0 ≤ w ∧ w ≤ 1000 <;> by_cases h3 : 0 ≤ s ∧ s ≤ 3786479999 <;> simp [h1, h2, h3]

theorem mn_eq (a b : Int) : mn a b = min a b := by unfold mn; omega
theorem mx_eq (a b : Int) : mx a b = max a b := by unfold mx; omega

/-- The error of a state at a time, and -1 where it is not told. -/
def EA (e w s t : Int) : Int := if VS e w s ∧ s ≤ t ∧ t ≤ 3786479999 then min (e + w * (t - s)) 1000000 else -1
theorem mul_bd (w d : Int) (h : 0 ≤ w ∧ w ≤ 1000) (hd : 0 ≤ d ∧ d ≤ 3786479999) : 0 ≤ w * d ∧ w * d ≤ 3786479999000 := by
  have h1 := Int.mul_nonneg h.1 hd.1
  have h2 := Int.mul_le_mul h.2 hd.2 hd.1 (by omega : (0:Int) ≤ 1000)
  omega
theorem ea_wrap (e w s t : Int) (h : VS e w s) (ht : s ≤ t ∧ t ≤ 3786479999) : wrap64 (e + (wrap64 (w * (wrap64 (t - s))))) = e + w * (t - s) := by
  obtain ⟨h1, h2, h3⟩ := h
  have e1 : wrap64 (t - s) = t - s := by unfold wrap64; omega
  have hm := mul_bd w (t - s) h2 (by omega)
  rw [e1]
  generalize w * (t - s) = m at *
  unfold wrap64; omega
theorem ea_i (e w s t : Int) : impl_ErrorAt.f e w s t = some (EA e w s t) := by
  unfold impl_ErrorAt.f EA
  simp only [ivs, wiT, Option.bind_some, decide_eq_true_eq, mn_eq]
  by_cases h : VS e w s
  · by_cases ht : s ≤ t ∧ t ≤ 3786479999
    · simp only [h, ht, if_true, true_and, and_self, ea_wrap e w s t h ht]
    · simp only [h, ht, if_true, true_and, if_false]
  · simp only [h, if_false, false_and]

theorem svs (e w s : Int) : spec_validState.f e w s = some (decide (VS e w s)) := by
  unfold spec_validState.f VS
  simp only [inR, Option.bind_some, decide_eq_true_eq]
  by_cases h1 : 0 ≤ e ∧ e ≤ 1000000 <;> by_cases h2 : 0 ≤ w ∧ w ≤ 1000 <;> by_cases h3 : 0 ≤ s ∧ s ≤ 3786479999 <;> simp [h1, h2, h3]

theorem ea_s (e w s t : Int) : spec_ErrorAt.f e w s t = some (EA e w s t) := by
  unfold spec_ErrorAt.f spec_errorAt.f EA
  simp only [svs, inR, Option.bind_some, decide_eq_true_eq, mn_eq]
  by_cases h : VS e w s
  · by_cases ht : s ≤ t ∧ t ≤ 3786479999
    · simp only [h, ht, if_true, true_and, and_self, ea_wrap e w s t h ht, Int.min_comm]
    · simp only [h, ht, if_true, true_and, if_false]
  · simp only [h, if_false, false_and]

theorem sg_i (e w s t x : Int) : impl_SeenAgain.f e w s t x = some (if ¬ EA e w s t < 0 ∧ 0 ≤ x ∧ x ≤ 1000000 then (min x (EA e w s t), w, t, true) else (0, 0, 0, false)) := by
  unfold impl_SeenAgain.f
  simp only [ea_i, wiT, Option.bind_some, decide_eq_true_eq, mn_eq]
  by_cases h : EA e w s t < 0
  · simp [h]
  · by_cases h2 : 0 ≤ x ∧ x ≤ 1000000 <;> simp [h, h2]
theorem sg_s (e w s t x : Int) : spec_SeenAgain.f e w s t x = some (if ¬ EA e w s t < 0 ∧ 0 ≤ x ∧ x ≤ 1000000 then (min x (EA e w s t), w, t, true) else (0, 0, 0, false)) := by
  unfold spec_SeenAgain.f
  simp only [ea_s, inR, Option.bind_some, decide_eq_true_eq, mn_eq]
  by_cases h : EA e w s t < 0
  · simp [h]
  · by_cases h2 : 0 ≤ x ∧ x ≤ 1000000 <;> simp [h, h2, Int.min_comm]

theorem ea_in {e w s t : Int} (v : VS e w s) (h1 : s ≤ t) (h2 : t ≤ 3786479999) : EA e w s t = min (e + w * (t - s)) 1000000 := by
  unfold EA; rw [if_pos ⟨v, h1, h2⟩]
theorem ea_dom {e w s t : Int} (h : ¬ EA e w s t < 0) : VS e w s ∧ s ≤ t ∧ t ≤ 3786479999 := by
  unfold EA at h
  by_cases c : VS e w s ∧ s ≤ t ∧ t ≤ 3786479999
  · exact c
  · rw [if_neg c] at h; omega
theorem mul_step (w s t : Int) : w * (t + 1 - s) = w * (t - s) + w := by
  rw [show t + 1 - s = t - s + 1 by omega, Int.mul_add, Int.mul_one]

/-- The level of a state at a time, and -1. -/
def LA (e w s t : Int) : Int := if EA e w s t < 0 then -1 else if t ≤ s + 60 ∧ EA e w s t ≤ 1000 then 2 else if EA e w s t ≤ 100000 then 1 else 0
theorem ea_vs {e w s t : Int} (h : ¬ EA e w s t < 0) : VS e w s ∧ s ≤ t ∧ t ≤ 3786479999 := by
  unfold EA at h
  by_cases c : VS e w s ∧ s ≤ t ∧ t ≤ 3786479999
  · exact c
  · rw [if_neg c] at h; omega
theorem la_i (k : Nat) (hk : 1 ≤ k) (e w s t : Int) : impl_LevelAt.f k e w s t = some (LA e w s t) := by
  obtain ⟨k, rfl⟩ : ∃ m, k = m + 1 := ⟨k - 1, by omega⟩
  unfold impl_LevelAt.f LA
  simp only [ea_i, Option.bind_some, impl_LevelAt.j0, decide_eq_true_eq]
  by_cases h : EA e w s t < 0
  · simp only [h, if_true]
  · obtain ⟨⟨v1, v2, v3⟩, ht⟩ := ea_vs h
    have e1 : wrap64 (s + 60) = s + 60 := by unfold wrap64; omega
    rw [if_neg h, if_neg h, e1]
    by_cases h2 : t ≤ s + 60
    · by_cases h3 : EA e w s t ≤ 1000 <;> by_cases h4 : EA e w s t ≤ 100000 <;> simp [h2, h3, h4]
    · by_cases h4 : EA e w s t ≤ 100000 <;> simp [h2, h4]

theorem xor_nn (a b : Nat) (ha : a < 4611686018427387904) (hb : b < 4611686018427387904) :
    Go.bits .xor .i64 (a : Int) (b : Int) = ((a ^^^ b : Nat) : Int) := by
  have hx : a ^^^ b < 2 ^ 62 := Nat.xor_lt_two_pow (by omega) (by omega)
  have h1 : (BitVec.ofInt 64 (a : Int)).toNat = a := by
    rw [BitVec.ofInt_natCast, BitVec.toNat_ofNat]; exact Nat.mod_eq_of_lt (by omega)
  have h2 : (BitVec.ofInt 64 (b : Int)).toNat = b := by
    rw [BitVec.ofInt_natCast, BitVec.toNat_ofNat]; exact Nat.mod_eq_of_lt (by omega)
  show IntKind.i64.wrap ((BitVec.ofInt 64 (a : Int) ^^^ BitVec.ofInt 64 (b : Int)).toNat : Int) = _
  rw [BitVec.toNat_xor, h1, h2]
  simp [IntKind.wrap, IntKind.bits, IntKind.signed]
  omega
theorem xor_nonneg (a b : Int) (ha : 0 ≤ a) (ha2 : a < 4611686018427387904) (hb : 0 ≤ b) (hb2 : b < 4611686018427387904) :
    0 ≤ Go.bits .xor .i64 a b := by
  obtain ⟨m, rfl⟩ := Int.eq_ofNat_of_zero_le ha
  obtain ⟨n, rfl⟩ := Int.eq_ofNat_of_zero_le hb
  have := xor_nn m n (by omega) (by omega)
  try simp only [Int.ofNat_eq_natCast] at this ⊢
  rw [this]; omega
/-- What a reader's bytes are. -/
def Byts (b : List Int) : Prop := b.length ≤ 2000 ∧ ∀ x ∈ b, 0 ≤ x ∧ x ≤ 255
theorem Byts.get {b : List Int} (h : Byts b) (i : Int) : 0 ≤ rd b i ∧ rd b i ≤ 255 := by
  unfold rd
  rw [List.getD_eq_getElem?_getD]
  by_cases hi : i.toNat < b.length
  · rw [List.getElem?_eq_getElem hi]; exact h.2 _ (List.getElem_mem hi)
  · rw [List.getElem?_eq_none (by omega)]; simp
theorem pick_ok (k : Nat) (hk : 1 ≤ k) {b : List Int} (hb : Byts b) {p : Int} (hp : 0 ≤ p) (hp2 : p ≤ 1000000) (n : Int) :
    ∃ v, spec_reader_pick.f k b p n = some (v, p + 1) ∧ 0 ≤ v ∧ (1 ≤ n → v < n) ∧ (n < 1 → v = 0) := by
  obtain ⟨k, rfl⟩ : ∃ m, k = m + 1 := ⟨k - 1, by omega⟩
  have hl := hb.1
  have w1 : wrap64 (p + 1) = p + 1 := by unfold wrap64; omega
  have w2 : wrap64 (p + 1 - 1) = p := by unfold wrap64; omega
  unfold spec_reader_pick.f
  rw [w1]
  by_cases hn : n < 1
  · rw [if_pos hn]
    exact ⟨0, by simp [spec_reader_pick.j0], by omega, by omega, fun _ => rfl⟩
  · rw [if_neg hn]
    by_cases he : (b.length : Int) = 0
    · refine ⟨0, ?_, by omega, by omega, fun _ => rfl⟩
      rw [show ((b.length : Int) == 0) = true by simpa using he]
      simp [spec_reader_pick.j0]
    · rw [show ((b.length : Int) == 0) = false by simpa using he]
      simp only [spec_reader_pick.j0, w2, if_neg (show ¬ (false = true) by decide), if_pos hp, if_neg (show ¬ n = 0 by omega)]
      by_cases hlt : p < (b.length : Int)
      · obtain ⟨r0, r1⟩ := hb.get p
        have w3 : wrap64 (rd b p) = rd b p := by unfold wrap64; omega
        rw [if_pos hlt, w3, Int.tmod_eq_emod_of_nonneg r0]
        exact ⟨_, rfl, Int.emod_nonneg _ (by omega), fun _ => Int.emod_lt_of_pos _ (by omega), fun _ => by omega⟩
      · have e1 := Int.tmod_eq_emod_of_nonneg (b := (b.length : Int)) hp
        have e2 : wrap64 (wrap64 (p * 7) + 3) = p * 7 + 3 := by unfold wrap64; omega
        have e3 := Int.tmod_eq_emod_of_nonneg (b := (b.length : Int)) (a := p * 7 + 3) (by omega)
        have e4 := Int.tdiv_eq_ediv_of_nonneg (b := (b.length : Int)) hp
        have n1 := Int.emod_nonneg p he
        have n2 := Int.emod_lt_of_pos p (show 0 < (b.length : Int) by omega)
        have n3 := Int.emod_nonneg (p * 7 + 3) he
        have n4 := Int.emod_lt_of_pos (p * 7 + 3) (show 0 < (b.length : Int) by omega)
        have n5 : 0 ≤ p / (b.length : Int) := Int.ediv_nonneg hp (by omega)
        have n6 : p / (b.length : Int) ≤ p := Int.ediv_le_self _ hp
        rw [if_neg hlt, if_neg he, e2, e1, e3, e4, if_pos n1, if_pos n2, if_pos n3, if_pos n4]
        obtain ⟨r0, r1⟩ := hb.get (p % (b.length : Int))
        obtain ⟨q0, q1⟩ := hb.get ((p * 7 + 3) % (b.length : Int))
        generalize rd b (p % (b.length : Int)) = x at *
        generalize rd b ((p * 7 + 3) % (b.length : Int)) = y at *
        generalize p / (b.length : Int) = z at *
        have w3 : wrap64 (wrap64 (wrap64 (wrap64 (wrap64 x * 131) + wrap64 (wrap64 y * 1117)) + wrap64 (p * 29)) + wrap64 (wrap64 z * 53)) = x * 131 + y * 1117 + p * 29 + z * 53 := by unfold wrap64; omega
        rw [w3]
        have w4 : wrap64 (Int.tdiv (x * 131 + y * 1117 + p * 29 + z * 53) 64) = (x * 131 + y * 1117 + p * 29 + z * 53) / 64 := by
          rw [Int.tdiv_eq_ediv_of_nonneg (by omega)]; unfold wrap64; omega
        rw [w4]
        have hx := xor_nonneg (x * 131 + y * 1117 + p * 29 + z * 53) ((x * 131 + y * 1117 + p * 29 + z * 53) / 64) (by omega) (by omega) (by omega) (by omega)
        rw [Int.tmod_eq_emod_of_nonneg hx]
        exact ⟨_, rfl, Int.emod_nonneg _ (by omega), fun _ => Int.emod_lt_of_pos _ (by omega), fun _ => by omega⟩

theorem reader_ok (l : List Int) (h : ∀ x ∈ l, (Lit.int .u8 x).wf = true) : ∃ b, spec_newReader.f l = some (b, 0) ∧ Byts b := by
  have h' : ∀ x ∈ l, 0 ≤ x ∧ x ≤ 255 := fun x hx => by
    have := h x hx
    simp [Lit.wf, IntKind.min, IntKind.max, IntKind.bits, IntKind.signed] at this
    omega
  unfold spec_newReader.f
  by_cases c : (l.length : Int) > 2000
  · rw [if_pos c, if_pos (by omega)]
    exact ⟨_, rfl, by simp; omega, fun x hx => h' x (List.mem_of_mem_take hx)⟩
  · rw [if_neg c]
    exact ⟨_, rfl, by omega, h'⟩

theorem one_ok (k : Nat) (hk : 1 ≤ k) {b : List Int} (hb : Byts b) {p : Int} (hp : 0 ≤ p) (hp2 : p ≤ 1000000) (l : List Int) (hl : l ≠ []) :
    ∃ v, spec_reader_one.f k b p l = some (v, p + 1) ∧ v ∈ l := by
  have hlen : 1 ≤ l.length := List.length_pos_iff.mpr hl
  obtain ⟨i, hi, h0, h1, h2⟩ := pick_ok k hk hb hp hp2 (l.length : Int)
  have h1 := h1 (by omega)
  unfold spec_reader_one.f
  rw [hi]
  simp only [Option.bind_some]
  rw [if_pos h0, if_pos h1]
  refine ⟨_, rfl, ?_⟩
  unfold rd
  rw [List.getD_eq_getElem?_getD, List.getElem?_eq_getElem (by omega)]
  exact List.getElem_mem _


theorem anystate_ok (k : Nat) (hk : 1 ≤ k) {b : List Int} (hb : Byts b) {p : Int} (hp : 0 ≤ p) (hp2 : p ≤ 900000) :
    ∃ e w s q, spec_anyState.f k b p = some (e, w, s, q) ∧ p ≤ q ∧ q ≤ p + 7 := by
  unfold spec_anyState.f
  obtain ⟨v1, h1, m1⟩ := one_ok k hk hb hp (by omega) ([0, 100, 1000, 1001, 100000, 100001, 1000000]) (by simp)
  rw [h1]; simp only [Option.bind_some]
  obtain ⟨v2, h2, m2⟩ := one_ok k hk hb (p := p + 1) (by omega) (by omega) ([0, 1, 10, 100, 1000]) (by simp)
  rw [h2]; simp only [Option.bind_some]
  obtain ⟨v3, h3, m3⟩ := pick_ok k hk hb (p := p + 1 + 1) (by omega) (by omega) 100
  rw [h3]; simp only [Option.bind_some]
  obtain ⟨v4, h4, m4⟩ := pick_ok k hk hb (p := p + 1 + 1 + 1) (by omega) (by omega) 16
  rw [h4]; simp only [Option.bind_some]
  by_cases c : v4 = 0
  · rw [if_pos c]
    obtain ⟨v5, h5, m5⟩ := one_ok k hk hb (p := p + 1 + 1 + 1 + 1) (by omega) (by omega) ([(-1), 1000001, 5]) (by simp)
    rw [h5]; simp only [Option.bind_some]
    obtain ⟨v6, h6, m6⟩ := one_ok k hk hb (p := p + 1 + 1 + 1 + 1 + 1) (by omega) (by omega) ([(-1), 1001, 5]) (by simp)
    rw [h6]; simp only [Option.bind_some]
    obtain ⟨v7, h7, m7⟩ := one_ok k hk hb (p := p + 1 + 1 + 1 + 1 + 1 + 1) (by omega) (by omega) ([(-1), 3786479999]) (by simp)
    rw [h7]; simp only [Option.bind_some]
    exact ⟨_, _, _, _, rfl, by omega, by omega⟩
  · rw [if_neg c]
    exact ⟨_, _, _, _, rfl, by omega, by omega⟩

theorem drawerror_ok (k : Nat) (hk : 1 ≤ k) (l : List Int) (h : ∀ x ∈ l, (Lit.int .u8 x).wf = true) : ∃ e w s t, spec_DrawErrorAt.f k l = some (e, w, s, t) := by
  obtain ⟨b, hr, hb⟩ := reader_ok l h
  obtain ⟨e, w, s, q, hs, _, _⟩ := anystate_ok k hk hb (p := 0) (by omega) (by omega)
  obtain ⟨v, hv, _⟩ := one_ok k hk hb (p := q) (by omega) (by omega) ([0, 1, 60, 61, 100, 990, 99900, 1000000, (-1)]) (by simp)
  exact ⟨e, w, s, wrap64 (s + v), by unfold spec_DrawErrorAt.f; rw [hr]; simp only [Option.bind_some]; rw [hs]; simp only [Option.bind_some]; rw [hv]; rfl⟩

theorem drawseen_ok (k : Nat) (hk : 1 ≤ k) (l : List Int) (h : ∀ x ∈ l, (Lit.int .u8 x).wf = true) : ∃ e w s t x, spec_DrawSeenAgain.f k l = some (e, w, s, t, x) := by
  obtain ⟨b, hr, hb⟩ := reader_ok l h
  obtain ⟨e, w, s, t, hd⟩ := drawerror_ok k hk l h
  obtain ⟨v, hv, _⟩ := one_ok k hk hb (p := 0) (by omega) (by omega) ([0, 50, 500, 1000000, 1000001, (-1)]) (by simp)
  exact ⟨e, w, s, t, v, by unfold spec_DrawSeenAgain.f; rw [hr]; simp only [Option.bind_some]; rw [hd]; simp only [Option.bind_some]; rw [hv]; rfl⟩

theorem FnLevelAtLocked : laws_FnLevelAtLocked.Pure := by
  intro l _ _ hw
  refine ⟨3, ?_⟩
  unfold laws_FnLevelAtLocked.f
  by_cases c : (l.length : Int) > 1048576
  · rw [if_pos c]
  · rw [if_neg c]
    obtain ⟨e, w, s, t, x, hd⟩ := drawseen_ok 3 (by omega) l hw
    rw [hd]
    simp only [Option.bind_some, sg_i, sg_s, if_true, laws_FnLevelAtLocked.j0, la_i 2 (by omega)]
    by_cases h : ¬ EA e w s t < 0 ∧ 0 ≤ x ∧ x ≤ 1000000
    · obtain ⟨hn, x1, x2⟩ := id h
      obtain ⟨v, t1, t2⟩ := ea_dom hn
      obtain ⟨v1, v2, v3⟩ := id v
      have a1 := ea_in v t1 t2
      have m1 := mul_bd w (t - s) v2 (by omega)
      have lev : ∀ y, 0 ≤ y → y ≤ 1000 → LA (min y (EA e w s t)) w t t = 2 := by
        intro y y0 y1
        have vu : VS (min y (EA e w s t)) w t := ⟨by omega, v2, by omega⟩
        have a2 : EA (min y (EA e w s t)) w t t = min y (EA e w s t) := by
          rw [ea_in vu (by omega) t2, Int.sub_self, Int.mul_zero]; omega
        unfold LA; rw [a2, if_neg (by omega), if_pos (by omega)]
      have g1 : ¬ EA e w s t < 0 ∧ (0:Int) ≤ 1000 ∧ (1000:Int) ≤ 1000000 := by omega
      rw [if_pos h, if_pos g1]
      simp only [lev 1000 (by omega) (by omega)]
      by_cases hx : x > 1000
      · simp [hx]
      · simp [hx, lev x x1 (by omega)]
    · rw [if_neg h]; simp

end Go.Proofs.Ytilnodnkknamhaa.Pure
namespace Go.Proofs.Ytilnodnkknamhaa.PrintWords
/-- Under this name the row asks for it. -/
theorem sized_ints {H : Type} {enc : TypeId × Value → H} {P : Program} {W : World} {base : Nat} {spare : Nat → Bool} {held : Bool} {t e : TypeId} {k : IntKind} {a : Option Addr} {len cap : Nat} {d : DataW H} {ps : List MemPlace} {ts : List TypeId} {ds : List (DataW H)} {j : Nat}
    (hsz : (DataW.weightsEach P ts ds).all (· ≤ reachBytes) = true) (ht : ts[j]? = some t) (hd : ds[j]? = some d) (hu : P.underlying t = some (.slice e)) (he : P.underlying e = some (.int k)) (hc : P.cellsOf e = 1) {B : Nat} (hB : P.bytesOf e = B)
    (h : DataW.Trod enc P W base spare held t (.slice a len cap) d ps) : len * B ≤ 140737488351232 :=
  Go.Proofs.YtilnodnkknamhaaW.PrintWords.sized_ints hsz ht hd hu he hc hB h
end Go.Proofs.Ytilnodnkknamhaa.PrintWords
