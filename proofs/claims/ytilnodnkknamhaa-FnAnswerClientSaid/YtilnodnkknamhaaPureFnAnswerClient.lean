/- For every list of bytes: of the question and the times that are drawn from it, AnswerClient is valid, with Send of the question as Origin, as the law says. -/
import Derived.Test.YtilnodnkknamhaaQFnAnswerClientx0
import Derived.Test.YtilnodnkknamhaaQFnAnswerClientx1
import Derived.Test.YtilnodnkknamhaaQFnAnswerClientx2
import Derived.Test.YtilnodnkknamhaaQFnAnswerClientx3
import Derived.Test.YtilnodnkknamhaaWSized
namespace Go.Proofs.Ytilnodnkknamhaa.Pure
open Go.RowKit Go.Proofs.Ytilnodnkknamhaa.QFnAnswerClient Go.Proofs.YtilnodnkknamhaaW.PrintWords Go.Proofs.YtilnodnkknamhaaW.PrintLast Go.Proofs.YtilnodnkknamhaaW.PrintMore
set_option linter.unusedVariables false
set_option linter.unusedSimpArgs false
theorem inR (a b c : Int) : spec_inRange.f a b c = some (decide (b ≤ a ∧ a ≤ c)) := by
  unfold spec_inRange.f; by_cases h : b ≤ a <;> simp [h]
theorem wiT (a b c : Int) : impl_within.f a b c = some (decide (b ≤ a ∧ a ≤ c)) := by
  unfold impl_within.f; by_cases h : b ≤ a <;> simp [h]

/-- A valid packet, in numbers. -/
def VP (l m st po sp o r s : Int) : Prop := (0 ≤ l ∧ l ≤ 3) ∧ (0 ≤ m ∧ m ≤ 7) ∧ (0 ≤ st ∧ st ≤ 15) ∧ (0 ≤ po ∧ po ≤ 17) ∧ (0 ≤ sp ∧ sp ≤ 65535) ∧ (0 ≤ o ∧ o ≤ 200000000999999) ∧ (0 ≤ r ∧ r ≤ 200000000999999) ∧ (0 ≤ s ∧ s ≤ 200000000999999)
instance (l m st po sp o r s : Int) : Decidable (VP l m st po sp o r s) := by unfold VP; infer_instance
theorem and_step (p q : Prop) [Decidable p] [Decidable q] (x : Option Bool) (hx : x = some (decide q)) : (if p then x else some false) = some (decide (p ∧ q)) := by
  by_cases h : p <;> simp [h, hx]
theorem ivp (l m st po sp o r s : Int) : impl_ValidPacket.f l m st po sp o r s = some (decide (VP l m st po sp o r s)) := by
  unfold impl_ValidPacket.f impl_isStamp.f VP
  simp only [wiT, Option.bind_some, decide_eq_true_eq]
  repeat (apply and_step)
  rfl

/-- When a client is answered. -/
def ACok (l m st po sp o r s rc sn le spr : Int) : Prop := VP l m st po sp o r s ∧ m = 3 ∧ (0 ≤ rc ∧ rc ≤ 200000000999999) ∧ (rc ≤ sn ∧ sn ≤ 200000000999999) ∧ (0 ≤ le ∧ le ≤ 2) ∧ (0 ≤ spr ∧ spr ≤ 65535)
instance (l m st po sp o r s rc sn le spr : Int) : Decidable (ACok l m st po sp o r s rc sn le spr) := by unfold ACok; infer_instance
/-- What the client is answered. -/
def ACr (l m st po sp o r s rc sn le spr : Int) : Int × Int × Int × Int × Int × Int × Int × Int × Bool :=
  if ACok l m st po sp o r s rc sn le spr then (if le = 0 then (3, 4, 0, po, spr, s, rc, sn, true) else (0, 4, 1, po, spr, s, rc, sn, true)) else (0, 0, 0, 0, 0, 0, 0, 0, false)

theorem ac_i (k : Nat) (hk : 1 ≤ k) (l m st po sp o r s rc sn le spr : Int) : impl_AnswerClient.f k l m st po sp o r s rc sn le spr = some (ACr l m st po sp o r s rc sn le spr) := by
  obtain ⟨k, rfl⟩ : ∃ m, k = m + 1 := ⟨k - 1, by omega⟩
  unfold impl_AnswerClient.f impl_isStamp.f ACr
  simp only [ivp, wiT, Option.bind_some, decide_eq_true_eq, impl_AnswerClient.j0, if_true]
  by_cases h1 : VP l m st po sp o r s
  · by_cases h2 : m = 3
    · by_cases h3 : 0 ≤ rc ∧ rc ≤ 200000000999999
      · by_cases h4 : rc ≤ sn ∧ sn ≤ 200000000999999
        · by_cases h5 : 0 ≤ le ∧ le ≤ 2
          · by_cases h6 : 0 ≤ spr ∧ spr ≤ 65535
            · rw [if_pos h1, if_pos h2, if_pos h3, if_pos h4, if_pos h5, if_neg (by simp [h6]), if_pos (show ACok l m st po sp o r s rc sn le spr from ⟨h1, h2, h3, h4, h5, h6⟩)]
              by_cases h7 : le = 0
              · rw [if_pos h7, if_pos h7]
              · rw [if_neg h7, if_neg h7]
            · rw [if_pos h1, if_pos h2, if_pos h3, if_pos h4, if_pos h5, if_pos (by simp; omega), if_neg (show ¬ ACok l m st po sp o r s rc sn le spr from fun h => h6 h.2.2.2.2.2)]
          · rw [if_pos h1, if_pos h2, if_pos h3, if_pos h4, if_neg h5, if_neg (show ¬ ACok l m st po sp o r s rc sn le spr from fun h => h5 h.2.2.2.2.1)]
        · rw [if_pos h1, if_pos h2, if_pos h3, if_neg h4, if_neg (show ¬ ACok l m st po sp o r s rc sn le spr from fun h => h4 h.2.2.2.1)]
      · rw [if_pos h1, if_pos h2, if_neg h3, if_neg (show ¬ ACok l m st po sp o r s rc sn le spr from fun h => h3 h.2.2.1)]
    · rw [if_pos h1, if_neg h2, if_neg (show ¬ ACok l m st po sp o r s rc sn le spr from fun h => h2 h.2.1)]
  · rw [if_neg h1, if_neg (show ¬ ACok l m st po sp o r s rc sn le spr from fun h => h1 h.1)]

theorem svp (l m st po sp o r s : Int) : spec_validPacket.f l m st po sp o r s = some (decide (VP l m st po sp o r s)) := by
  unfold spec_validPacket.f spec_validStamp.f VP
  simp only [inR, Option.bind_some, decide_eq_true_eq]
  repeat (apply and_step)
  rfl

theorem ac_s (k : Nat) (hk : 1 ≤ k) (l m st po sp o r s rc sn le spr : Int) : spec_AnswerClient.f k l m st po sp o r s rc sn le spr = some (ACr l m st po sp o r s rc sn le spr) := by
  obtain ⟨k, rfl⟩ : ∃ m, k = m + 1 := ⟨k - 1, by omega⟩
  unfold spec_AnswerClient.f spec_validStamp.f ACr
  simp only [svp, inR, Option.bind_some, decide_eq_true_eq, spec_AnswerClient.j0, if_true]
  by_cases h1 : VP l m st po sp o r s
  · by_cases h2 : m = 3
    · by_cases h3 : 0 ≤ rc ∧ rc ≤ 200000000999999
      · by_cases h4 : rc ≤ sn ∧ sn ≤ 200000000999999
        · by_cases h5 : 0 ≤ le ∧ le ≤ 2
          · by_cases h6 : 0 ≤ spr ∧ spr ≤ 65535
            · rw [if_pos h1, if_pos h2, if_pos h3, if_pos h4, if_pos h5, if_neg (by simp [h6]), if_pos (show ACok l m st po sp o r s rc sn le spr from ⟨h1, h2, h3, h4, h5, h6⟩)]
              by_cases h7 : le = 0
              · rw [if_pos h7, if_pos h7]
              · rw [if_neg h7, if_neg h7]
            · rw [if_pos h1, if_pos h2, if_pos h3, if_pos h4, if_pos h5, if_pos (by simp; omega), if_neg (show ¬ ACok l m st po sp o r s rc sn le spr from fun h => h6 h.2.2.2.2.2)]
          · rw [if_pos h1, if_pos h2, if_pos h3, if_pos h4, if_neg h5, if_neg (show ¬ ACok l m st po sp o r s rc sn le spr from fun h => h5 h.2.2.2.2.1)]
        · rw [if_pos h1, if_pos h2, if_pos h3, if_neg h4, if_neg (show ¬ ACok l m st po sp o r s rc sn le spr from fun h => h4 h.2.2.2.1)]
      · rw [if_pos h1, if_pos h2, if_neg h3, if_neg (show ¬ ACok l m st po sp o r s rc sn le spr from fun h => h3 h.2.2.1)]
    · rw [if_pos h1, if_neg h2, if_neg (show ¬ ACok l m st po sp o r s rc sn le spr from fun h => h2 h.2.1)]
  · rw [if_neg h1, if_neg (show ¬ ACok l m st po sp o r s rc sn le spr from fun h => h1 h.1)]


theorem xor_nn (a b : Nat) (ha : a < 4611686018427387904) (hb : b < 4611686018427387904) :
    Go.bits .xor .i64 (a : Int) (b : Int) = ((a ^^^ b : Nat) : Int) := by
  have hx : a ^^^ b < 2 ^ 62 := Nat.xor_lt_two_pow (by omega) (by omega)
  have h1 : (BitVec.ofInt 64 (a : Int)).toNat = a := by
    rw [BitVec.ofInt_natCast, BitVec.toNat_ofNat]; exact Nat.mod_eq_of_lt (by omega)
  have h2 : (BitVec.ofInt 64 (b : Int)).toNat = b := by
    rw [BitVec.ofInt_natCast, BitVec.toNat_ofNat]; exact Nat.mod_eq_of_lt (by omega)
  show IntKind.i64.wrap ((BitVec.ofInt 64 (a : Int) ^^^ BitVec.ofInt 64 (b : Int)).toNat : Int) = _
  rw [BitVec.toNat_xor, h1, h2]
  simp [IntKind.wrap, IntKind.bits, IntKind.signed]
  omega
theorem xor_nonneg (a b : Int) (ha : 0 ≤ a) (ha2 : a < 4611686018427387904) (hb : 0 ≤ b) (hb2 : b < 4611686018427387904) :
    0 ≤ Go.bits .xor .i64 a b := by
  obtain ⟨m, rfl⟩ := Int.eq_ofNat_of_zero_le ha
  obtain ⟨n, rfl⟩ := Int.eq_ofNat_of_zero_le hb
  have := xor_nn m n (by omega) (by omega)
  try simp only [Int.ofNat_eq_natCast] at this ⊢
  rw [this]; omega
/-- What a reader's bytes are. -/
def Byts (b : List Int) : Prop := b.length ≤ 2000 ∧ ∀ x ∈ b, 0 ≤ x ∧ x ≤ 255
theorem Byts.get {b : List Int} (h : Byts b) (i : Int) : 0 ≤ rd b i ∧ rd b i ≤ 255 := by
  unfold rd
  rw [List.getD_eq_getElem?_getD]
  by_cases hi : i.toNat < b.length
  · rw [List.getElem?_eq_getElem hi]; exact h.2 _ (List.getElem_mem hi)
  · rw [List.getElem?_eq_none (by omega)]; simp
theorem pick_ok (k : Nat) (hk : 1 ≤ k) {b : List Int} (hb : Byts b) {p : Int} (hp : 0 ≤ p) (hp2 : p ≤ 1000000) (n : Int) :
    ∃ v, spec_reader_pick.f k b p n = some (v, p + 1) ∧ 0 ≤ v ∧ (1 ≤ n → v < n) ∧ (n < 1 → v = 0) := by
  obtain ⟨k, rfl⟩ : ∃ m, k = m + 1 := ⟨k - 1, by omega⟩
  have hl := hb.1
  have w1 : wrap64 (p + 1) = p + 1 := by unfold wrap64; omega
  have w2 : wrap64 (p + 1 - 1) = p := by unfold wrap64; omega
  unfold spec_reader_pick.f
  rw [w1]
  by_cases hn : n < 1
  · rw [if_pos hn]
    exact ⟨0, by simp [spec_reader_pick.j0], by omega, by omega, fun _ => rfl⟩
  · rw [if_neg hn]
    by_cases he : (b.length : Int) = 0
    · refine ⟨0, ?_, by omega, by omega, fun _ => rfl⟩
      rw [show ((b.length : Int) == 0) = true by simpa using he]
      simp [spec_reader_pick.j0]
    · rw [show ((b.length : Int) == 0) = false by simpa using he]
      simp only [spec_reader_pick.j0, w2, if_neg (show ¬ (false = true) by decide), if_pos hp, if_neg (show ¬ n = 0 by omega)]
      by_cases hlt : p < (b.length : Int)
      · obtain ⟨r0, r1⟩ := hb.get p
        have w3 : wrap64 (rd b p) = rd b p := by unfold wrap64; omega
        rw [if_pos hlt, w3, Int.tmod_eq_emod_of_nonneg r0]
        exact ⟨_, rfl, Int.emod_nonneg _ (by omega), fun _ => Int.emod_lt_of_pos _ (by omega), fun _ => by omega⟩
      · have e1 := Int.tmod_eq_emod_of_nonneg (b := (b.length : Int)) hp
        have e2 : wrap64 (wrap64 (p * 7) + 3) = p * 7 + 3 := by unfold wrap64; omega
        have e3 := Int.tmod_eq_emod_of_nonneg (b := (b.length : Int)) (a := p * 7 + 3) (by omega)
        have e4 := Int.tdiv_eq_ediv_of_nonneg (b := (b.length : Int)) hp
        have n1 := Int.emod_nonneg p he
        have n2 := Int.emod_lt_of_pos p (show 0 < (b.length : Int) by omega)
        have n3 := Int.emod_nonneg (p * 7 + 3) he
        have n4 := Int.emod_lt_of_pos (p * 7 + 3) (show 0 < (b.length : Int) by omega)
        have n5 : 0 ≤ p / (b.length : Int) := Int.ediv_nonneg hp (by omega)
        have n6 : p / (b.length : Int) ≤ p := Int.ediv_le_self _ hp
        rw [if_neg hlt, if_neg he, e2, e1, e3, e4, if_pos n1, if_pos n2, if_pos n3, if_pos n4]
        obtain ⟨r0, r1⟩ := hb.get (p % (b.length : Int))
        obtain ⟨q0, q1⟩ := hb.get ((p * 7 + 3) % (b.length : Int))
        generalize rd b (p % (b.length : Int)) = x at *
        generalize rd b ((p * 7 + 3) % (b.length : Int)) = y at *
        generalize p / (b.length : Int) = z at *
        have w3 : wrap64 (wrap64 (wrap64 (wrap64 (wrap64 x * 131) + wrap64 (wrap64 y * 1117)) + wrap64 (p * 29)) + wrap64 (wrap64 z * 53)) = x * 131 + y * 1117 + p * 29 + z * 53 := by unfold wrap64; omega
        rw [w3]
        have w4 : wrap64 (Int.tdiv (x * 131 + y * 1117 + p * 29 + z * 53) 64) = (x * 131 + y * 1117 + p * 29 + z * 53) / 64 := by
          rw [Int.tdiv_eq_ediv_of_nonneg (by omega)]; unfold wrap64; omega
        rw [w4]
        have hx := xor_nonneg (x * 131 + y * 1117 + p * 29 + z * 53) ((x * 131 + y * 1117 + p * 29 + z * 53) / 64) (by omega) (by omega) (by omega) (by omega)
        rw [Int.tmod_eq_emod_of_nonneg hx]
        exact ⟨_, rfl, Int.emod_nonneg _ (by omega), fun _ => Int.emod_lt_of_pos _ (by omega), fun _ => by omega⟩

theorem reader_ok (l : List Int) (h : ∀ x ∈ l, (Lit.int .u8 x).wf = true) : ∃ b, spec_newReader.f l = some (b, 0) ∧ Byts b := by
  have h' : ∀ x ∈ l, 0 ≤ x ∧ x ≤ 255 := fun x hx => by
    have := h x hx
    simp [Lit.wf, IntKind.min, IntKind.max, IntKind.bits, IntKind.signed] at this
    omega
  unfold spec_newReader.f
  by_cases c : (l.length : Int) > 2000
  · rw [if_pos c, if_pos (by omega)]
    exact ⟨_, rfl, by simp; omega, fun x hx => h' x (List.mem_of_mem_take hx)⟩
  · rw [if_neg c]
    exact ⟨_, rfl, by omega, h'⟩

theorem one_ok (k : Nat) (hk : 1 ≤ k) {b : List Int} (hb : Byts b) {p : Int} (hp : 0 ≤ p) (hp2 : p ≤ 1000000) (l : List Int) (hl : l ≠ []) :
    ∃ v, spec_reader_one.f k b p l = some (v, p + 1) ∧ v ∈ l := by
  have hlen : 1 ≤ l.length := List.length_pos_iff.mpr hl
  obtain ⟨i, hi, h0, h1, h2⟩ := pick_ok k hk hb hp hp2 (l.length : Int)
  have h1 := h1 (by omega)
  unfold spec_reader_one.f
  rw [hi]
  simp only [Option.bind_some]
  rw [if_pos h0, if_pos h1]
  refine ⟨_, rfl, ?_⟩
  unfold rd
  rw [List.getD_eq_getElem?_getD, List.getElem?_eq_getElem (by omega)]
  exact List.getElem_mem _


theorem somestamp_ok (k : Nat) (hk : 1 ≤ k) {b : List Int} (hb : Byts b) {p : Int} (hp : 0 ≤ p) (hp2 : p ≤ 900000) :
    ∃ v, spec_someStamp.f k b p = some (v, p + 3) ∧ 0 ≤ v ∧ v ≤ 249000001743 * 1000 := by
  unfold spec_someStamp.f
  obtain ⟨v1, h1, m1⟩ := pick_ok k hk hb hp (by omega) 250
  rw [h1]; simp only [Option.bind_some]
  obtain ⟨v2, h2, m2⟩ := pick_ok k hk hb (p := p + 1) (by omega) (by omega) 250
  rw [h2]; simp only [Option.bind_some]
  have e1 : wrap64 (1000 * v1) = 1000 * v1 := by unfold wrap64; omega
  have e2 : wrap64 (1000000007 * v2) = 1000000007 * v2 := by unfold wrap64; omega
  rw [e1, e2]
  obtain ⟨v3, h3, m3⟩ := one_ok k hk hb (p := p + 1 + 1) (by omega) (by omega) ([0, 1, 999999, 1000000, 200000000999999, 123456789012, 1000 * v1, 1000000007 * v2]) (by simp)
  rw [h3]; simp only [Option.bind_some]
  refine ⟨v3, by rw [show p + 1 + 1 + 1 = p + 3 by omega], ?_⟩
  simp only [List.mem_cons, List.not_mem_nil, or_false] at m3
  omega

theorem anypacket_ok (k : Nat) (hk : 1 ≤ k) {b : List Int} (hb : Byts b) {p : Int} (hp : 0 ≤ p) (hp2 : p ≤ 800000) :
    ∃ l m st po sp o r s q, spec_anyPacket.f k b p = some (l, m, st, po, sp, o, r, s, q) ∧ p ≤ q ∧ q ≤ p + 16 := by
  unfold spec_anyPacket.f
  obtain ⟨v1, h1, m1⟩ := one_ok k hk hb hp (by omega) ([0, 0, 1, 3]) (by simp)
  rw [h1]; simp only [Option.bind_some]
  obtain ⟨v2, h2, m2⟩ := one_ok k hk hb (p := p + 1) (by omega) (by omega) ([3, 4, 3, 0, 7]) (by simp)
  rw [h2]; simp only [Option.bind_some]
  obtain ⟨v3, h3, m3⟩ := one_ok k hk hb (p := p + 1 + 1) (by omega) (by omega) ([1, 0, 1, 15]) (by simp)
  rw [h3]; simp only [Option.bind_some]
  obtain ⟨v4, h4, m4⟩ := one_ok k hk hb (p := p + 1 + 1 + 1) (by omega) (by omega) ([6, 0, 10, 17]) (by simp)
  rw [h4]; simp only [Option.bind_some]
  obtain ⟨v5, h5, m5⟩ := one_ok k hk hb (p := p + 1 + 1 + 1 + 1) (by omega) (by omega) ([0, 100, 65535, 256]) (by simp)
  rw [h5]; simp only [Option.bind_some]
  obtain ⟨v6, h6, m6⟩ := somestamp_ok k hk hb (p := p + 1 + 1 + 1 + 1 + 1) (by omega) (by omega)
  rw [h6]; simp only [Option.bind_some]
  obtain ⟨v7, h7, m7⟩ := somestamp_ok k hk hb (p := p + 1 + 1 + 1 + 1 + 1 + 3) (by omega) (by omega)
  rw [h7]; simp only [Option.bind_some]
  obtain ⟨v8, h8, m8⟩ := somestamp_ok k hk hb (p := p + 1 + 1 + 1 + 1 + 1 + 3 + 3) (by omega) (by omega)
  rw [h8]; simp only [Option.bind_some]
  obtain ⟨v9, h9, m9⟩ := pick_ok k hk hb (p := p + 1 + 1 + 1 + 1 + 1 + 3 + 3 + 3) (by omega) (by omega) 24
  rw [h9]; simp only [Option.bind_some]
  by_cases c0 : v9 = 0
  · rw [if_pos c0]
    obtain ⟨w, h, _⟩ := one_ok k hk hb (p := p + 1 + 1 + 1 + 1 + 1 + 3 + 3 + 3 + 1) (by omega) (by omega) ([(-1), 4]) (by simp)
    rw [h]; exact ⟨_, _, _, _, _, _, _, _, _, rfl, by omega, by omega⟩
  · rw [if_neg c0]
    by_cases c1 : v9 = 1
    · rw [if_pos c1]
      obtain ⟨w, h, _⟩ := one_ok k hk hb (p := p + 1 + 1 + 1 + 1 + 1 + 3 + 3 + 3 + 1) (by omega) (by omega) ([(-1), 16]) (by simp)
      rw [h]; exact ⟨_, _, _, _, _, _, _, _, _, rfl, by omega, by omega⟩
    · rw [if_neg c1]
      by_cases c2 : v9 = 2
      · rw [if_pos c2]
        obtain ⟨w, h, _⟩ := one_ok k hk hb (p := p + 1 + 1 + 1 + 1 + 1 + 3 + 3 + 3 + 1) (by omega) (by omega) ([(-1), 65536]) (by simp)
        rw [h]; exact ⟨_, _, _, _, _, _, _, _, _, rfl, by omega, by omega⟩
      · rw [if_neg c2]
        by_cases c3 : v9 = 3
        · rw [if_pos c3]
          obtain ⟨w, h, _⟩ := one_ok k hk hb (p := p + 1 + 1 + 1 + 1 + 1 + 3 + 3 + 3 + 1) (by omega) (by omega) ([(-1), 200000001000000]) (by simp)
          rw [h]; exact ⟨_, _, _, _, _, _, _, _, _, rfl, by omega, by omega⟩
        · rw [if_neg c3]
          by_cases c4 : v9 = 4
          · rw [if_pos c4]
            obtain ⟨w, h, _⟩ := one_ok k hk hb (p := p + 1 + 1 + 1 + 1 + 1 + 3 + 3 + 3 + 1) (by omega) (by omega) ([(-1), 18]) (by simp)
            rw [h]; exact ⟨_, _, _, _, _, _, _, _, _, rfl, by omega, by omega⟩
          · rw [if_neg c4]
            exact ⟨_, _, _, _, _, _, _, _, _, rfl, by omega, by omega⟩

theorem ask_s' (n : Int) : ∃ a b c d e f g h, spec_AskServer.f n = some (a, b, c, d, e, f, g, h) := by
  unfold spec_AskServer.f spec_validStamp.f
  simp only [inR, Option.bind_some, decide_eq_true_eq]
  by_cases h : 0 ≤ n ∧ n ≤ 200000000999999
  · rw [if_pos h]; exact ⟨_, _, _, _, _, _, _, _, rfl⟩
  · rw [if_neg h]; exact ⟨_, _, _, _, _, _, _, _, rfl⟩
theorem danswer_go (k : Nat) (hk : 2 ≤ k) {b : List Int} (hb : Byts b) {p : Int} (hp : 0 ≤ p) (hp2 : p ≤ 800000) (l m st po sp o r s : Int) :
    ∃ rc sn le spr, spec_DrawAnswerClient.j0 k b p l m st po sp o r s = some (l, m, st, po, sp, o, r, s, rc, sn, le, spr) := by
  obtain ⟨k, rfl⟩ : ∃ m, k = m + 1 := ⟨k - 1, by omega⟩
  simp only [spec_DrawAnswerClient.j0]
  obtain ⟨v1, h1, _⟩ := somestamp_ok k (by omega) hb hp (by omega)
  rw [h1]; simp only [Option.bind_some]
  obtain ⟨v2, h2, _⟩ := one_ok k (by omega) hb (p := p + 3) (by omega) (by omega) ([0, 5, 100, (-1)]) (by simp)
  rw [h2]; simp only [Option.bind_some]
  obtain ⟨v3, h3, _⟩ := one_ok k (by omega) hb (p := p + 3 + 1) (by omega) (by omega) ([2, 1, 0, 3, (-1), 2]) (by simp)
  rw [h3]; simp only [Option.bind_some]
  obtain ⟨v4, h4, _⟩ := one_ok k (by omega) hb (p := p + 3 + 1 + 1) (by omega) (by omega) ([0, 100, 65535, 65536, (-1)]) (by simp)
  rw [h4]; exact ⟨_, _, _, _, rfl⟩
theorem drawanswer_ok (k : Nat) (hk : 2 ≤ k) (l0 : List Int) (hw : ∀ x ∈ l0, (Lit.int .u8 x).wf = true) : ∃ l m st po sp o r s rc sn le spr, spec_DrawAnswerClient.f k l0 = some (l, m, st, po, sp, o, r, s, rc, sn, le, spr) := by
  obtain ⟨b, hr, hb⟩ := reader_ok l0 hw
  obtain ⟨l, m, st, po, sp, o, r, s, q, hs, q1, q2⟩ := anypacket_ok k (by omega) hb (p := 0) (by omega) (by omega)
  unfold spec_DrawAnswerClient.f
  rw [hr]; simp only [Option.bind_some]; rw [hs]; simp only [Option.bind_some]
  obtain ⟨v, hv, _⟩ := pick_ok k (by omega) hb (p := q) (by omega) (by omega) 3
  rw [hv]; simp only [Option.bind_some]
  by_cases c : v > 0
  · rw [if_pos c]
    obtain ⟨u, hu, _⟩ := somestamp_ok k (by omega) hb (p := q + 1) (by omega) (by omega)
    rw [hu]; simp only [Option.bind_some]
    obtain ⟨a1, a2, a3, a4, a5, a6, a7, a8, ha⟩ := ask_s' u
    rw [ha]; simp only [Option.bind_some]
    obtain ⟨rc, sn, le, spr, h⟩ := danswer_go k hk hb (p := q + 1 + 3) (by omega) (by omega) a1 a2 a3 a4 a5 a6 a7 a8
    exact ⟨_, _, _, _, _, _, _, _, _, _, _, _, h⟩
  · rw [if_neg c]
    obtain ⟨rc, sn, le, spr, h⟩ := danswer_go k hk hb (p := q + 1) (by omega) (by omega) l m st po sp o r s
    exact ⟨_, _, _, _, _, _, _, _, _, _, _, _, h⟩

theorem FnAnswerClient : laws_FnAnswerClient.Pure := by
  intro l0 _ _ hw
  refine ⟨5, ?_⟩
  unfold laws_FnAnswerClient.f
  by_cases c : (l0.length : Int) > 1048576
  · rw [if_pos c]
  · rw [if_neg c]
    obtain ⟨l, m, st, po, sp, o, r, s, rc, sn, le, spr, hd⟩ := drawanswer_ok 5 (by omega) l0 hw
    rw [hd]
    simp only [Option.bind_some, ac_i 5 (by omega), ac_s 5 (by omega), ivp]
    unfold ACr
    by_cases h : ACok l m st po sp o r s rc sn le spr
    · obtain ⟨⟨v1, v2, v3, v4, v5, v6, v7, v8⟩, h2, h3, h4, h5, h6⟩ := id h
      rw [if_pos h]
      by_cases hz : le = 0
      · have v : VP 3 4 0 po spr s rc sn := by unfold VP; omega
        simp [hz, v]
      · have v : VP 0 4 1 po spr s rc sn := by unfold VP; omega
        simp [hz, v]
    · rw [if_neg h]; simp

end Go.Proofs.Ytilnodnkknamhaa.Pure
namespace Go.Proofs.Ytilnodnkknamhaa.PrintWords
/-- Under this name the row asks for it. -/
theorem sized_ints {H : Type} {enc : TypeId × Value → H} {P : Program} {W : World} {base : Nat} {spare : Nat → Bool} {held : Bool} {t e : TypeId} {k : IntKind} {a : Option Addr} {len cap : Nat} {d : DataW H} {ps : List MemPlace} {ts : List TypeId} {ds : List (DataW H)} {j : Nat}
    (hsz : (DataW.weightsEach P ts ds).all (· ≤ reachBytes) = true) (ht : ts[j]? = some t) (hd : ds[j]? = some d) (hu : P.underlying t = some (.slice e)) (he : P.underlying e = some (.int k)) (hc : P.cellsOf e = 1) {B : Nat} (hB : P.bytesOf e = B)
    (h : DataW.Trod enc P W base spare held t (.slice a len cap) d ps) : len * B ≤ 140737488351232 :=
  Go.Proofs.YtilnodnkknamhaaW.PrintWords.sized_ints hsz ht hd hu he hc hB h
end Go.Proofs.Ytilnodnkknamhaa.PrintWords
