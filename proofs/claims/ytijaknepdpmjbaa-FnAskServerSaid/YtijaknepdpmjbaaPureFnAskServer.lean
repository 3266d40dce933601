/- For every list of bytes: of the time stamp that is drawn from it, AskServer is a valid packet with the mode of questions and the time stamp, as the law says. -/
import Derived.Test.YtijaknepdpmjbaaPFnAskServerx0
import Derived.Test.YtijaknepdpmjbaaPFnAskServerx1
import Derived.Test.YtijaknepdpmjbaaPFnAskServerx2
import Derived.Test.YtijaknepdpmjbaaPFnAskServerx3
import Derived.Test.YtijaknepdpmjbaaWSized
namespace Go.Proofs.Ytijaknepdpmjbaa.Pure
open Go.RowKit Go.Proofs.Ytijaknepdpmjbaa.PFnAskServer Go.Proofs.YtijaknepdpmjbaaW.PrintWords Go.Proofs.YtijaknepdpmjbaaW.PrintLast Go.Proofs.YtijaknepdpmjbaaW.PrintMore
set_option linter.unusedVariables false
set_option linter.unusedSimpArgs false
theorem inR (a b c : Int) : spec_inRange.f a b c = some (decide (b ≤ a ∧ a ≤ c)) := by
  unfold spec_inRange.f; by_cases h : b ≤ a <;> simp [h]
theorem wiT (a b c : Int) : impl_within.f a b c = some (decide (b ≤ a ∧ a ≤ c)) := by
  unfold impl_within.f; by_cases h : b ≤ a <;> simp [h]

/-- A valid packet, in numbers. -/
def VP (l m st po sp o r s : Int) : Prop := (0 ≤ l ∧ l ≤ 3) ∧ (0 ≤ m ∧ m ≤ 7) ∧ (0 ≤ st ∧ st ≤ 15) ∧ (0 ≤ po ∧ po ≤ 17) ∧ (0 ≤ sp ∧ sp ≤ 65535) ∧ (0 ≤ o ∧ o ≤ 200000000999999) ∧ (0 ≤ r ∧ r ≤ 200000000999999) ∧ (0 ≤ s ∧ s ≤ 200000000999999)
instance (l m st po sp o r s : Int) : Decidable (VP l m st po sp o r s) := by unfold VP; infer_instance
theorem and_step (p q : Prop) [Decidable p] [Decidable q] (x : Option Bool) (hx : x = some (decide q)) : (if p then x else some false) = some (decide (p ∧ q)) := by
  by_cases h : p <;> simp [h, hx]
theorem ivp (l m st po sp o r s : Int) : impl_ValidPacket.f l m st po sp o r s = some (decide (VP l m st po sp o r s)) := by
  unfold impl_ValidPacket.f impl_isStamp.f VP
  simp only [wiT, Option.bind_some, decide_eq_true_eq]
  repeat (apply and_step)
  rfl

theorem xor_nn (a b : Nat) (ha : a < 4611686018427387904) (hb : b < 4611686018427387904) :
    Go.bits .xor .i64 (a : Int) (b : Int) = ((a ^^^ b : Nat) : Int) := by
  have hx : a ^^^ b < 2 ^ 62 := Nat.xor_lt_two_pow (by omega) (by omega)
  have h1 : (BitVec.ofInt 64 (a : Int)).toNat = a := by
    rw [BitVec.ofInt_natCast, BitVec.toNat_ofNat]; exact Nat.mod_eq_of_lt (by omega)
  have h2 : (BitVec.ofInt 64 (b : Int)).toNat = b := by
    rw [BitVec.ofInt_natCast, BitVec.toNat_ofNat]; exact Nat.mod_eq_of_lt (by omega)
  show IntKind.i64.wrap ((BitVec.ofInt 64 (a : Int) ^^^ BitVec.ofInt 64 (b : Int)).toNat : Int) = _
  rw [BitVec.toNat_xor, h1, h2]
  simp [IntKind.wrap, IntKind.bits, IntKind.signed]
  omega
theorem xor_nonneg (a b : Int) (ha : 0 ≤ a) (ha2 : a < 4611686018427387904) (hb : 0 ≤ b) (hb2 : b < 4611686018427387904) :
    0 ≤ Go.bits .xor .i64 a b := by
  obtain ⟨m, rfl⟩ := Int.eq_ofNat_of_zero_le ha
  obtain ⟨n, rfl⟩ := Int.eq_ofNat_of_zero_le hb
  have := xor_nn m n (by omega) (by omega)
  try simp only [Int.ofNat_eq_natCast] at this ⊢
  rw [this]; omega
/-- What a reader's bytes are. -/
def Byts (b : List Int) : Prop := b.length ≤ 2000 ∧ ∀ x ∈ b, 0 ≤ x ∧ x ≤ 255
theorem Byts.get {b : List Int} (h : Byts b) (i : Int) : 0 ≤ rd b i ∧ rd b i ≤ 255 := by
  unfold rd
  rw [List.getD_eq_getElem?_getD]
  by_cases hi : i.toNat < b.length
  · rw [List.getElem?_eq_getElem hi]; exact h.2 _ (List.getElem_mem hi)
  · rw [List.getElem?_eq_none (by omega)]; simp
theorem pick_ok (k : Nat) (hk : 1 ≤ k) {b : List Int} (hb : Byts b) {p : Int} (hp : 0 ≤ p) (hp2 : p ≤ 1000000) (n : Int) :
    ∃ v, spec_reader_pick.f k b p n = some (v, p + 1) ∧ 0 ≤ v ∧ (1 ≤ n → v < n) ∧ (n < 1 → v = 0) := by
  obtain ⟨k, rfl⟩ : ∃ m, k = m + 1 := ⟨k - 1, by omega⟩
  have hl := hb.1
  have w1 : wrap64 (p + 1) = p + 1 := by unfold wrap64; omega
  have w2 : wrap64 (p + 1 - 1) = p := by unfold wrap64; omega
  unfold spec_reader_pick.f
  rw [w1]
  by_cases hn : n < 1
  · rw [if_pos hn]
    exact ⟨0, by simp [spec_reader_pick.j0], by omega, by omega, fun _ => rfl⟩
  · rw [if_neg hn]
    by_cases he : (b.length : Int) = 0
    · refine ⟨0, ?_, by omega, by omega, fun _ => rfl⟩
      rw [show ((b.length : Int) == 0) = true by simpa using he]
      simp [spec_reader_pick.j0]
    · rw [show ((b.length : Int) == 0) = false by simpa using he]
      simp only [spec_reader_pick.j0, w2, if_neg (show ¬ (false = true) by decide), if_pos hp, if_neg (show ¬ n = 0 by omega)]
      by_cases hlt : p < (b.length : Int)
      · obtain ⟨r0, r1⟩ := hb.get p
        have w3 : wrap64 (rd b p) = rd b p := by unfold wrap64; omega
        rw [if_pos hlt, w3, Int.tmod_eq_emod_of_nonneg r0]
        exact ⟨_, rfl, Int.emod_nonneg _ (by omega), fun _ => Int.emod_lt_of_pos _ (by omega), fun _ => by omega⟩
      · have e1 := Int.tmod_eq_emod_of_nonneg (b := (b.length : Int)) hp
        have e2 : wrap64 (wrap64 (p * 7) + 3) = p * 7 + 3 := by unfold wrap64; omega
        have e3 := Int.tmod_eq_emod_of_nonneg (b := (b.length : Int)) (a := p * 7 + 3) (by omega)
        have e4 := Int.tdiv_eq_ediv_of_nonneg (b := (b.length : Int)) hp
        have n1 := Int.emod_nonneg p he
        have n2 := Int.emod_lt_of_pos p (show 0 < (b.length : Int) by omega)
        have n3 := Int.emod_nonneg (p * 7 + 3) he
        have n4 := Int.emod_lt_of_pos (p * 7 + 3) (show 0 < (b.length : Int) by omega)
        have n5 : 0 ≤ p / (b.length : Int) := Int.ediv_nonneg hp (by omega)
        have n6 : p / (b.length : Int) ≤ p := Int.ediv_le_self _ hp
        rw [if_neg hlt, if_neg he, e2, e1, e3, e4, if_pos n1, if_pos n2, if_pos n3, if_pos n4]
        obtain ⟨r0, r1⟩ := hb.get (p % (b.length : Int))
        obtain ⟨q0, q1⟩ := hb.get ((p * 7 + 3) % (b.length : Int))
        generalize rd b (p % (b.length : Int)) = x at *
        generalize rd b ((p * 7 + 3) % (b.length : Int)) = y at *
        generalize p / (b.length : Int) = z at *
        have w3 : wrap64 (wrap64 (wrap64 (wrap64 (wrap64 x * 131) + wrap64 (wrap64 y * 1117)) + wrap64 (p * 29)) + wrap64 (wrap64 z * 53)) = x * 131 + y * 1117 + p * 29 + z * 53 := by unfold wrap64; omega
        rw [w3]
        have w4 : wrap64 (Int.tdiv (x * 131 + y * 1117 + p * 29 + z * 53) 64) = (x * 131 + y * 1117 + p * 29 + z * 53) / 64 := by
          rw [Int.tdiv_eq_ediv_of_nonneg (by omega)]; unfold wrap64; omega
        rw [w4]
        have hx := xor_nonneg (x * 131 + y * 1117 + p * 29 + z * 53) ((x * 131 + y * 1117 + p * 29 + z * 53) / 64) (by omega) (by omega) (by omega) (by omega)
        rw [Int.tmod_eq_emod_of_nonneg hx]
        exact ⟨_, rfl, Int.emod_nonneg _ (by omega), fun _ => Int.emod_lt_of_pos _ (by omega), fun _ => by omega⟩

theorem reader_ok (l : List Int) (h : ∀ x ∈ l, (Lit.int .u8 x).wf = true) : ∃ b, spec_newReader.f l = some (b, 0) ∧ Byts b := by
  have h' : ∀ x ∈ l, 0 ≤ x ∧ x ≤ 255 := fun x hx => by
    have := h x hx
    simp [Lit.wf, IntKind.min, IntKind.max, IntKind.bits, IntKind.signed] at this
    omega
  unfold spec_newReader.f
  by_cases c : (l.length : Int) > 2000
  · rw [if_pos c, if_pos (by omega)]
    exact ⟨_, rfl, by simp; omega, fun x hx => h' x (List.mem_of_mem_take hx)⟩
  · rw [if_neg c]
    exact ⟨_, rfl, by omega, h'⟩

theorem one_ok (k : Nat) (hk : 1 ≤ k) {b : List Int} (hb : Byts b) {p : Int} (hp : 0 ≤ p) (hp2 : p ≤ 1000000) (l : List Int) (hl : l ≠ []) :
    ∃ v, spec_reader_one.f k b p l = some (v, p + 1) ∧ v ∈ l := by
  have hlen : 1 ≤ l.length := List.length_pos_iff.mpr hl
  obtain ⟨i, hi, h0, h1, h2⟩ := pick_ok k hk hb hp hp2 (l.length : Int)
  have h1 := h1 (by omega)
  unfold spec_reader_one.f
  rw [hi]
  simp only [Option.bind_some]
  rw [if_pos h0, if_pos h1]
  refine ⟨_, rfl, ?_⟩
  unfold rd
  rw [List.getD_eq_getElem?_getD, List.getElem?_eq_getElem (by omega)]
  exact List.getElem_mem _


theorem somestamp_ok (k : Nat) (hk : 1 ≤ k) {b : List Int} (hb : Byts b) {p : Int} (hp : 0 ≤ p) (hp2 : p ≤ 900000) :
    ∃ v, spec_someStamp.f k b p = some (v, p + 3) ∧ 0 ≤ v ∧ v ≤ 249000001743 * 1000 := by
  unfold spec_someStamp.f
  obtain ⟨v1, h1, m1⟩ := pick_ok k hk hb hp (by omega) 250
  rw [h1]; simp only [Option.bind_some]
  obtain ⟨v2, h2, m2⟩ := pick_ok k hk hb (p := p + 1) (by omega) (by omega) 250
  rw [h2]; simp only [Option.bind_some]
  have e1 : wrap64 (1000 * v1) = 1000 * v1 := by unfold wrap64; omega
  have e2 : wrap64 (1000000007 * v2) = 1000000007 * v2 := by unfold wrap64; omega
  rw [e1, e2]
  obtain ⟨v3, h3, m3⟩ := one_ok k hk hb (p := p + 1 + 1) (by omega) (by omega) ([0, 1, 999999, 1000000, 200000000999999, 123456789012, 1000 * v1, 1000000007 * v2]) (by simp)
  rw [h3]; simp only [Option.bind_some]
  refine ⟨v3, by rw [show p + 1 + 1 + 1 = p + 3 by omega], ?_⟩
  simp only [List.mem_cons, List.not_mem_nil, or_false] at m3
  omega

theorem drawsplit_ok (k : Nat) (hk : 1 ≤ k) (l : List Int) (h : ∀ x ∈ l, (Lit.int .u8 x).wf = true) : ∃ n, spec_DrawSplitStamp.f k l = some n := by
  obtain ⟨b, hr, hb⟩ := reader_ok l h
  unfold spec_DrawSplitStamp.f
  rw [hr]; simp only [Option.bind_some]
  obtain ⟨v1, h1, m1⟩ := pick_ok k hk hb (p := 0) (by omega) (by omega) 10
  rw [h1]; simp only [Option.bind_some]
  by_cases c : v1 = 0
  · rw [if_pos c]
    obtain ⟨v2, h2, m2⟩ := one_ok k hk hb (p := 0 + 1) (by omega) (by omega) ([(-1), 200000001000000]) (by simp)
    rw [h2]; exact ⟨_, rfl⟩
  · rw [if_neg c]
    obtain ⟨v2, h2, m2⟩ := somestamp_ok k hk hb (p := 0 + 1) (by omega) (by omega)
    rw [h2]; exact ⟨_, rfl⟩

theorem ask_i (n : Int) : impl_AskServer.f n = some (if 0 ≤ n ∧ n ≤ 200000000999999 then (0, 3, 0, 0, 0, 0, 0, n) else (0, 0, 0, 0, 0, 0, 0, 0)) := by
  unfold impl_AskServer.f impl_isStamp.f
  simp only [wiT, Option.bind_some, decide_eq_true_eq]
  by_cases h : 0 ≤ n ∧ n ≤ 200000000999999 <;> simp [h]
theorem ask_s (n : Int) : spec_AskServer.f n = some (if 0 ≤ n ∧ n ≤ 200000000999999 then (0, 3, 0, 0, 0, 0, 0, n) else (0, 0, 0, 0, 0, 0, 0, 0)) := by
  unfold spec_AskServer.f spec_validStamp.f
  simp only [inR, Option.bind_some, decide_eq_true_eq]
  by_cases h : 0 ≤ n ∧ n ≤ 200000000999999 <;> simp [h]
theorem FnAskServer : laws_FnAskServer.Pure := by
  intro l _ _ hw
  refine ⟨3, ?_⟩
  unfold laws_FnAskServer.f
  by_cases c : (l.length : Int) > 1048576
  · rw [if_pos c]
  · rw [if_neg c]
    obtain ⟨n, hd⟩ := drawsplit_ok 3 (by omega) l hw
    have hd2 : spec_DrawAskServer.f 3 l = some n := by unfold spec_DrawAskServer.f; rw [hd]; rfl
    rw [hd2]
    simp only [Option.bind_some, ask_i, ask_s, laws_FnAskServer.j0, ivp, decide_eq_true_eq]
    by_cases h : 0 ≤ n ∧ n ≤ 200000000999999
    · have v : VP 0 3 0 0 0 0 0 n := by unfold VP; omega
      simp only [h, and_self, if_true]
      simp [v]
    · have : n < 0 ∨ 200000000999999 < n := by omega
      rcases this with h1 | h1 <;> simp [h, h1]

end Go.Proofs.Ytijaknepdpmjbaa.Pure
namespace Go.Proofs.Ytijaknepdpmjbaa.PrintWords
/-- Under this name the row asks for it. -/
theorem sized_ints {H : Type} {enc : TypeId × Value → H} {P : Program} {W : World} {base : Nat} {spare : Nat → Bool} {held : Bool} {t e : TypeId} {k : IntKind} {a : Option Addr} {len cap : Nat} {d : DataW H} {ps : List MemPlace} {ts : List TypeId} {ds : List (DataW H)} {j : Nat}
    (hsz : (DataW.weightsEach P ts ds).all (· ≤ reachBytes) = true) (ht : ts[j]? = some t) (hd : ds[j]? = some d) (hu : P.underlying t = some (.slice e)) (he : P.underlying e = some (.int k)) (hc : P.cellsOf e = 1) {B : Nat} (hB : P.bytesOf e = B)
    (h : DataW.Trod enc P W base spare held t (.slice a len cap) d ps) : len * B ≤ 140737488351232 :=
  Go.Proofs.YtijaknepdpmjbaaW.PrintWords.sized_ints hsz ht hd hu he hc hB h
end Go.Proofs.Ytijaknepdpmjbaa.PrintWords
