/- For every list of bytes: of the leap second and the time that are drawn from it, SmearAt does not fall, grows by at most 12 in a second, and is at most 1000000, as the law says. -/
import Derived.Test.YtpdepbkfifiikaaPFnSmearAtx0
import Derived.Test.YtpdepbkfifiikaaPFnSmearAtx1
import Derived.Test.YtpdepbkfifiikaaPFnSmearAtx2
import Derived.Test.YtpdepbkfifiikaaWSized
namespace Go.Proofs.Ytpdepbkfifiikaa.Pure
open Go.RowKit Go.Proofs.Ytpdepbkfifiikaa.PFnSmearAt Go.Proofs.YtpdepbkfifiikaaW.PrintWords Go.Proofs.YtpdepbkfifiikaaW.PrintLast Go.Proofs.YtpdepbkfifiikaaW.PrintMore
set_option linter.unusedVariables false
set_option linter.unusedSimpArgs false
theorem inR (a b c : Int) : spec_inRange.f a b c = some (decide (b ≤ a ∧ a ≤ c)) := by
  unfold spec_inRange.f; by_cases h : b ≤ a <;> simp [h]
theorem wiT (a b c : Int) : impl_within.f a b c = some (decide (b ≤ a ∧ a ≤ c)) := by
  unfold impl_within.f; by_cases h : b ≤ a <;> simp [h]

theorem mn_eq (a b : Int) : mn a b = min a b := by unfold mn; omega
theorem mx_eq (a b : Int) : mx a b = max a b := by unfold mx; omega

/-- By how much time is held back, and -1. -/
def SA (a t : Int) : Int := if (86400 ≤ a ∧ a ≤ 3786393599) ∧ (0 ≤ t ∧ t ≤ 3786479999) then min (max (t - (a - 43200)) 0) 86400 * 1000000 / 86400 else -1
theorem sa_i (a t : Int) : impl_SmearAt.f a t = some (SA a t) := by
  unfold impl_SmearAt.f impl_canSmear.f impl_isTime.f SA
  simp only [wiT, Option.bind_some, decide_eq_true_eq, mn_eq, mx_eq]
  by_cases h1 : 86400 ≤ a ∧ a ≤ 3786393599
  · by_cases h2 : 0 ≤ t ∧ t ≤ 3786479999
    · rw [if_pos h1, if_pos h2, if_pos (show (86400 ≤ a ∧ a ≤ 3786393599) ∧ (0 ≤ t ∧ t ≤ 3786479999) from ⟨h1, h2⟩)]
      have e : wrap64 (t - (wrap64 (a - 43200))) = t - (a - 43200) := by unfold wrap64; omega
      rw [e]
    · simp [h1, h2]
  · simp [h1]

theorem smear_s (a t : Int) (h1 : 86400 ≤ a ∧ a ≤ 3786393599) (h2 : 0 ≤ t ∧ t ≤ 3786479999) :
    spec_smear.f a t = some (((mn (mx (wrap64 (t - (wrap64 (a - 43200)))) 0) 86400) * 1000000) / 86400) := by
  have e1 : wrap64 (a - 43200) = a - 43200 := by unfold wrap64; omega
  have e2 : wrap64 (t - (a - 43200)) = t - (a - 43200) := by unfold wrap64; omega
  unfold spec_smear.f
  rw [e1, e2]
  generalize t - (a - 43200) = n
  unfold mn mx
  by_cases c1 : n ≤ 0
  · rw [if_pos c1]
    have : (if 86400 < (if n < 0 then (0:Int) else n) then (86400:Int) else (if n < 0 then 0 else n)) = 0 := by split <;> split at * <;> omega
    rw [this]; rfl
  · rw [if_neg c1]
    by_cases c2 : n ≥ 86400
    · rw [if_pos c2]
      have : (if 86400 < (if n < 0 then (0:Int) else n) then (86400:Int) else (if n < 0 then 0 else n)) = 86400 := by split <;> split at * <;> omega
      rw [this]; rfl
    · rw [if_neg c2]
      have : (if 86400 < (if n < 0 then (0:Int) else n) then (86400:Int) else (if n < 0 then 0 else n)) = n := by split <;> split at * <;> omega
      rw [this]
      have e3 : wrap64 (1000000 * n) = n * 1000000 := by unfold wrap64; omega
      rw [e3, Int.tdiv_eq_ediv_of_nonneg (by omega)]
      congr 1
      unfold wrap64; omega

theorem sa_s (a t : Int) : spec_SmearAt.f a t = some (SA a t) := by
  unfold spec_SmearAt.f spec_validLeapTime.f spec_validTime.f SA
  simp only [inR, Option.bind_some, decide_eq_true_eq]
  by_cases h1 : 86400 ≤ a ∧ a ≤ 3786393599
  · by_cases h2 : 0 ≤ t ∧ t ≤ 3786479999
    · rw [if_pos h1, if_pos h2, if_pos (show (86400 ≤ a ∧ a ≤ 3786393599) ∧ (0 ≤ t ∧ t ≤ 3786479999) from ⟨h1, h2⟩), smear_s a t h1 h2, Option.bind_some]
      have e : wrap64 (t - (wrap64 (a - 43200))) = t - (a - 43200) := by unfold wrap64; omega
      rw [e, mn_eq, mx_eq]
    · simp [h1, h2]
  · simp [h1]

theorem xor_nn (a b : Nat) (ha : a < 4611686018427387904) (hb : b < 4611686018427387904) :
    Go.bits .xor .i64 (a : Int) (b : Int) = ((a ^^^ b : Nat) : Int) := by
  have hx : a ^^^ b < 2 ^ 62 := Nat.xor_lt_two_pow (by omega) (by omega)
  have h1 : (BitVec.ofInt 64 (a : Int)).toNat = a := by
    rw [BitVec.ofInt_natCast, BitVec.toNat_ofNat]; exact Nat.mod_eq_of_lt (by omega)
  have h2 : (BitVec.ofInt 64 (b : Int)).toNat = b := by
    rw [BitVec.ofInt_natCast, BitVec.toNat_ofNat]; exact Nat.mod_eq_of_lt (by omega)
  show IntKind.i64.wrap ((BitVec.ofInt 64 (a : Int) ^^^ BitVec.ofInt 64 (b : Int)).toNat : Int) = _
  rw [BitVec.toNat_xor, h1, h2]
  simp [IntKind.wrap, IntKind.bits, IntKind.signed]
  omega
theorem xor_nonneg (a b : Int) (ha : 0 ≤ a) (ha2 : a < 4611686018427387904) (hb : 0 ≤ b) (hb2 : b < 4611686018427387904) :
    0 ≤ Go.bits .xor .i64 a b := by
  obtain ⟨m, rfl⟩ := Int.eq_ofNat_of_zero_le ha
  obtain ⟨n, rfl⟩ := Int.eq_ofNat_of_zero_le hb
  have := xor_nn m n (by omega) (by omega)
  try simp only [Int.ofNat_eq_natCast] at this ⊢
  rw [this]; omega
/-- What a reader's bytes are. -/
def Byts (b : List Int) : Prop := b.length ≤ 2000 ∧ ∀ x ∈ b, 0 ≤ x ∧ x ≤ 255
theorem Byts.get {b : List Int} (h : Byts b) (i : Int) : 0 ≤ rd b i ∧ rd b i ≤ 255 := by
  unfold rd
  rw [List.getD_eq_getElem?_getD]
  by_cases hi : i.toNat < b.length
  · rw [List.getElem?_eq_getElem hi]; exact h.2 _ (List.getElem_mem hi)
  · rw [List.getElem?_eq_none (by omega)]; simp
theorem pick_ok (k : Nat) (hk : 1 ≤ k) {b : List Int} (hb : Byts b) {p : Int} (hp : 0 ≤ p) (hp2 : p ≤ 1000000) (n : Int) :
    ∃ v, spec_reader_pick.f k b p n = some (v, p + 1) ∧ 0 ≤ v ∧ (1 ≤ n → v < n) ∧ (n < 1 → v = 0) := by
  obtain ⟨k, rfl⟩ : ∃ m, k = m + 1 := ⟨k - 1, by omega⟩
  have hl := hb.1
  have w1 : wrap64 (p + 1) = p + 1 := by unfold wrap64; omega
  have w2 : wrap64 (p + 1 - 1) = p := by unfold wrap64; omega
  unfold spec_reader_pick.f
  rw [w1]
  by_cases hn : n < 1
  · rw [if_pos hn]
    exact ⟨0, by simp [spec_reader_pick.j0], by omega, by omega, fun _ => rfl⟩
  · rw [if_neg hn]
    by_cases he : (b.length : Int) = 0
    · refine ⟨0, ?_, by omega, by omega, fun _ => rfl⟩
      rw [show ((b.length : Int) == 0) = true by simpa using he]
      simp [spec_reader_pick.j0]
    · rw [show ((b.length : Int) == 0) = false by simpa using he]
      simp only [spec_reader_pick.j0, w2, if_neg (show ¬ (false = true) by decide), if_pos hp, if_neg (show ¬ n = 0 by omega)]
      by_cases hlt : p < (b.length : Int)
      · obtain ⟨r0, r1⟩ := hb.get p
        have w3 : wrap64 (rd b p) = rd b p := by unfold wrap64; omega
        rw [if_pos hlt, w3, Int.tmod_eq_emod_of_nonneg r0]
        exact ⟨_, rfl, Int.emod_nonneg _ (by omega), fun _ => Int.emod_lt_of_pos _ (by omega), fun _ => by omega⟩
      · have e1 := Int.tmod_eq_emod_of_nonneg (b := (b.length : Int)) hp
        have e2 : wrap64 (wrap64 (p * 7) + 3) = p * 7 + 3 := by unfold wrap64; omega
        have e3 := Int.tmod_eq_emod_of_nonneg (b := (b.length : Int)) (a := p * 7 + 3) (by omega)
        have e4 := Int.tdiv_eq_ediv_of_nonneg (b := (b.length : Int)) hp
        have n1 := Int.emod_nonneg p he
        have n2 := Int.emod_lt_of_pos p (show 0 < (b.length : Int) by omega)
        have n3 := Int.emod_nonneg (p * 7 + 3) he
        have n4 := Int.emod_lt_of_pos (p * 7 + 3) (show 0 < (b.length : Int) by omega)
        have n5 : 0 ≤ p / (b.length : Int) := Int.ediv_nonneg hp (by omega)
        have n6 : p / (b.length : Int) ≤ p := Int.ediv_le_self _ hp
        rw [if_neg hlt, if_neg he, e2, e1, e3, e4, if_pos n1, if_pos n2, if_pos n3, if_pos n4]
        obtain ⟨r0, r1⟩ := hb.get (p % (b.length : Int))
        obtain ⟨q0, q1⟩ := hb.get ((p * 7 + 3) % (b.length : Int))
        generalize rd b (p % (b.length : Int)) = x at *
        generalize rd b ((p * 7 + 3) % (b.length : Int)) = y at *
        generalize p / (b.length : Int) = z at *
        have w3 : wrap64 (wrap64 (wrap64 (wrap64 (wrap64 x * 131) + wrap64 (wrap64 y * 1117)) + wrap64 (p * 29)) + wrap64 (wrap64 z * 53)) = x * 131 + y * 1117 + p * 29 + z * 53 := by unfold wrap64; omega
        rw [w3]
        have w4 : wrap64 (Int.tdiv (x * 131 + y * 1117 + p * 29 + z * 53) 64) = (x * 131 + y * 1117 + p * 29 + z * 53) / 64 := by
          rw [Int.tdiv_eq_ediv_of_nonneg (by omega)]; unfold wrap64; omega
        rw [w4]
        have hx := xor_nonneg (x * 131 + y * 1117 + p * 29 + z * 53) ((x * 131 + y * 1117 + p * 29 + z * 53) / 64) (by omega) (by omega) (by omega) (by omega)
        rw [Int.tmod_eq_emod_of_nonneg hx]
        exact ⟨_, rfl, Int.emod_nonneg _ (by omega), fun _ => Int.emod_lt_of_pos _ (by omega), fun _ => by omega⟩

theorem reader_ok (l : List Int) (h : ∀ x ∈ l, (Lit.int .u8 x).wf = true) : ∃ b, spec_newReader.f l = some (b, 0) ∧ Byts b := by
  have h' : ∀ x ∈ l, 0 ≤ x ∧ x ≤ 255 := fun x hx => by
    have := h x hx
    simp [Lit.wf, IntKind.min, IntKind.max, IntKind.bits, IntKind.signed] at this
    omega
  unfold spec_newReader.f
  by_cases c : (l.length : Int) > 2000
  · rw [if_pos c, if_pos (by omega)]
    exact ⟨_, rfl, by simp; omega, fun x hx => h' x (List.mem_of_mem_take hx)⟩
  · rw [if_neg c]
    exact ⟨_, rfl, by omega, h'⟩

theorem one_ok (k : Nat) (hk : 1 ≤ k) {b : List Int} (hb : Byts b) {p : Int} (hp : 0 ≤ p) (hp2 : p ≤ 1000000) (l : List Int) (hl : l ≠ []) :
    ∃ v, spec_reader_one.f k b p l = some (v, p + 1) ∧ v ∈ l := by
  have hlen : 1 ≤ l.length := List.length_pos_iff.mpr hl
  obtain ⟨i, hi, h0, h1, h2⟩ := pick_ok k hk hb hp hp2 (l.length : Int)
  have h1 := h1 (by omega)
  unfold spec_reader_one.f
  rw [hi]
  simp only [Option.bind_some]
  rw [if_pos h0, if_pos h1]
  refine ⟨_, rfl, ?_⟩
  unfold rd
  rw [List.getD_eq_getElem?_getD, List.getElem?_eq_getElem (by omega)]
  exact List.getElem_mem _


theorem leapat_ok (k : Nat) (hk : 1 ≤ k) {b : List Int} (hb : Byts b) {p : Int} (hp : 0 ≤ p) (hp2 : p ≤ 900000) : ∃ v, spec_leapAt.f k b p = some (v, p + 2) := by
  unfold spec_leapAt.f
  obtain ⟨v1, h1, m1⟩ := pick_ok k hk hb hp (by omega) 250
  rw [h1]; simp only [Option.bind_some]
  obtain ⟨v2, h2, m2⟩ := one_ok k hk hb (p := p + 1) (by omega) (by omega) ([86400, 1000000, 86399, 3786393599, 3786393600, wrap64 (604800 * v1), 123456789]) (by simp)
  rw [h2]; exact ⟨v2, by rw [show p + 2 = p + 1 + 1 by omega]; rfl⟩

theorem drawsmearat_ok (k : Nat) (hk : 1 ≤ k) (l : List Int) (h : ∀ x ∈ l, (Lit.int .u8 x).wf = true) : ∃ a t, spec_DrawSmearAt.f k l = some (a, t) := by
  obtain ⟨b, hr, hb⟩ := reader_ok l h
  unfold spec_DrawSmearAt.f
  rw [hr]; simp only [Option.bind_some]
  obtain ⟨v1, h1⟩ := leapat_ok k hk hb (p := 0) (by omega) (by omega)
  rw [h1]; simp only [Option.bind_some]
  obtain ⟨v2, h2, m2⟩ := pick_ok k hk hb (p := 0 + 2) (by omega) (by omega) 250
  rw [h2]; simp only [Option.bind_some]
  obtain ⟨v3, h3, m3⟩ := one_ok k hk hb (p := 0 + 2 + 1) (by omega) (by omega) ([0, (-43200), 43200, (-43201), 43201, 1, (-1), wrap64 (345 * (wrap64 (v2 - 125))), 1000000, (-90000)]) (by simp)
  rw [h3]; exact ⟨_, _, rfl⟩

theorem FnSmearAt : laws_FnSmearAt.Pure := by
  intro l _ _ hw
  refine ⟨3, ?_⟩
  unfold laws_FnSmearAt.f
  by_cases c : (l.length : Int) > 1048576
  · rw [if_pos c]
  · rw [if_neg c]
    obtain ⟨a, t, hd⟩ := drawsmearat_ok 3 (by omega) l hw
    rw [hd]
    simp only [Option.bind_some, sa_i, sa_s, if_true, laws_FnSmearAt.j0]
    by_cases h : SA a t < 0
    · rw [if_pos h]; simp
    · rw [if_neg h]
      by_cases ht : t = 3786479999
      · simp [ht]
      · rw [if_neg (by simpa using ht)]
        by_cases v : (86400 ≤ a ∧ a ≤ 3786393599) ∧ (0 ≤ t ∧ t ≤ 3786479999)
        · have e1 : wrap64 (t + 1) = t + 1 := by unfold wrap64; omega
          have s1 : SA a t = min (max (t - (a - 43200)) 0) 86400 * 1000000 / 86400 := by unfold SA; rw [if_pos v]
          have s2 : SA a (t + 1) = min (max (t + 1 - (a - 43200)) 0) 86400 * 1000000 / 86400 := by unfold SA; rw [if_pos (by omega)]
          have x1 : min (max (t - (a - 43200)) 0) 86400 ≤ min (max (t + 1 - (a - 43200)) 0) 86400 := by omega
          have x2 : min (max (t + 1 - (a - 43200)) 0) 86400 ≤ min (max (t - (a - 43200)) 0) 86400 + 1 := by omega
          have x3 : 0 ≤ min (max (t - (a - 43200)) 0) 86400 := by omega
          have x4 : min (max (t + 1 - (a - 43200)) 0) 86400 ≤ 86400 := by omega
          rw [e1, s1, s2]
          generalize min (max (t - (a - 43200)) 0) 86400 = x at *
          generalize min (max (t + 1 - (a - 43200)) 0) 86400 = y at *
          have e2 : wrap64 (x * 1000000 / 86400 + 12) = x * 1000000 / 86400 + 12 := by unfold wrap64; omega
          rw [e2, if_pos (show y * 1000000 / 86400 ≥ x * 1000000 / 86400 by omega), if_pos (show y * 1000000 / 86400 ≤ x * 1000000 / 86400 + 12 by omega)]
          simp; omega
        · unfold SA at h; rw [if_neg v] at h; omega

end Go.Proofs.Ytpdepbkfifiikaa.Pure
namespace Go.Proofs.Ytpdepbkfifiikaa.PrintWords
/-- Under this name the row asks for it. -/
theorem sized_ints {H : Type} {enc : TypeId × Value → H} {P : Program} {W : World} {base : Nat} {spare : Nat → Bool} {held : Bool} {t e : TypeId} {k : IntKind} {a : Option Addr} {len cap : Nat} {d : DataW H} {ps : List MemPlace} {ts : List TypeId} {ds : List (DataW H)} {j : Nat}
    (hsz : (DataW.weightsEach P ts ds).all (· ≤ reachBytes) = true) (ht : ts[j]? = some t) (hd : ds[j]? = some d) (hu : P.underlying t = some (.slice e)) (he : P.underlying e = some (.int k)) (hc : P.cellsOf e = 1) {B : Nat} (hB : P.bytesOf e = B)
    (h : DataW.Trod enc P W base spare held t (.slice a len cap) d ps) : len * B ≤ 140737488351232 :=
  Go.Proofs.YtpdepbkfifiikaaW.PrintWords.sized_ints hsz ht hd hu he hc hB h
end Go.Proofs.Ytpdepbkfifiikaa.PrintWords
