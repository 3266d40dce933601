/- For every list of bytes: the first bytes of the packet that is drawn from it tell Leap, the version, Mode, Stratum and Poll, as the law says. -/
import Derived.Test.YtilnodnkknamhaaQFnPacketVersionx0
import Derived.Test.YtilnodnkknamhaaQFnPacketVersionx1
import Derived.Test.YtilnodnkknamhaaQFnPacketVersionx2
import Derived.Test.YtilnodnkknamhaaQFnPacketVersionx3
import Derived.Test.YtilnodnkknamhaaWSized
namespace Go.Proofs.Ytilnodnkknamhaa.Pure
open Go.RowKit Go.Proofs.Ytilnodnkknamhaa.QFnPacketVersion Go.Proofs.YtilnodnkknamhaaW.PrintWords Go.Proofs.YtilnodnkknamhaaW.PrintLast Go.Proofs.YtilnodnkknamhaaW.PrintMore
set_option linter.unusedVariables false
set_option linter.unusedSimpArgs false
theorem inR (a b c : Int) : spec_inRange.f a b c = some (decide (b ≤ a ∧ a ≤ c)) := by
  unfold spec_inRange.f; by_cases h : b ≤ a <;> simp [h]
theorem wiT (a b c : Int) : impl_within.f a b c = some (decide (b ≤ a ∧ a ≤ c)) := by
  unfold impl_within.f; by_cases h : b ≤ a <;> simp [h]

/-- A valid packet, in numbers. -/
def VP (l m st po sp o r s : Int) : Prop := (0 ≤ l ∧ l ≤ 3) ∧ (0 ≤ m ∧ m ≤ 7) ∧ (0 ≤ st ∧ st ≤ 15) ∧ (0 ≤ po ∧ po ≤ 17) ∧ (0 ≤ sp ∧ sp ≤ 65535) ∧ (0 ≤ o ∧ o ≤ 200000000999999) ∧ (0 ≤ r ∧ r ≤ 200000000999999) ∧ (0 ≤ s ∧ s ≤ 200000000999999)
instance (l m st po sp o r s : Int) : Decidable (VP l m st po sp o r s) := by unfold VP; infer_instance
theorem and_step (p q : Prop) [Decidable p] [Decidable q] (x : Option Bool) (hx : x = some (decide q)) : (if p then x else some false) = some (decide (p ∧ q)) := by
  by_cases h : p <;> simp [h, hx]
theorem ivp (l m st po sp o r s : Int) : impl_ValidPacket.f l m st po sp o r s = some (decide (VP l m st po sp o r s)) := by
  unfold impl_ValidPacket.f impl_isStamp.f VP
  simp only [wiT, Option.bind_some, decide_eq_true_eq]
  repeat (apply and_step)
  rfl

theorem svp (l m st po sp o r s : Int) : spec_validPacket.f l m st po sp o r s = some (decide (VP l m st po sp o r s)) := by
  unfold spec_validPacket.f spec_validStamp.f VP
  simp only [inR, Option.bind_some, decide_eq_true_eq]
  repeat (apply and_step)
  rfl

/-- The last bytes of a number, the highest one first. -/
def bl (x : Int) : Nat → List Int
  | 0 => []
  | n + 1 => (x / 2 ^ (8 * n)) % 256 :: bl x n
theorem bl_len (x : Int) (n : Nat) : (bl x n).length = n := by
  induction n with
  | zero => rfl
  | succ n ih => simp [bl, ih]
theorem bl_bd (x : Int) (n : Nat) : ∀ y ∈ bl x n, 0 ≤ y ∧ y ≤ 255 := by
  induction n with
  | zero => intro y hy; simp [bl] at hy
  | succ n ih =>
    intro y hy
    rcases List.mem_cons.mp hy with rfl | hy
    · omega
    · exact ih y hy
/-- The bytes of a packet. -/
def FB (l m st po sp o r s : Int) : List Int := [64 * l + 32 + m, st, po] ++ bl sp 2 ++ bl o 6 ++ bl r 6 ++ bl s 6
theorem FB_len (l m st po sp o r s : Int) : (FB l m st po sp o r s).length = 23 := by
  unfold FB; simp [bl_len]
theorem sh_ok (x : Int) (j : Nat) (h : j ≤ 7) : IntKind.u64.wrap (wrap64 (8 * (j : Int))) = ((8 * j : Nat) : Int) ∧ shr .i64 x ((8 * j : Nat) : Int) = x / 2 ^ (8 * j) := by
  refine ⟨?_, ?_⟩
  · have e : wrap64 (8 * (j : Int)) = ((8 * j : Nat) : Int) := by unfold wrap64; omega
    rw [e]; simp [IntKind.wrap, IntKind.bits, IntKind.signed]; omega
  · unfold shr
    rw [Int.toNat_natCast, Nat.min_eq_left (by simp [IntKind.bits]; omega)]
theorem pb_go (x : Int) : ∀ (n k : Nat) (acc : List Int), n < k → acc.length + n ≤ 100 → n ≤ 8 → impl_putBytes.l0 k acc x ((n : Int) - 1) = some (acc ++ bl x n) := by
  intro n
  induction n with
  | zero =>
    intro k acc hk ha hn
    obtain ⟨k, rfl⟩ : ∃ m, k = m + 1 := ⟨k - 1, by omega⟩
    simp only [impl_putBytes.l0, bl]; rw [if_neg (by omega), List.append_nil]
  | succ n ih =>
    intro k acc hk ha hn
    obtain ⟨k, rfl⟩ : ∃ m, k = m + 1 := ⟨k - 1, by omega⟩
    obtain ⟨s1, s2⟩ := sh_ok x n (by omega)
    rw [show ((n + 1 : Nat) : Int) - 1 = (n : Int) by omega]
    simp only [impl_putBytes.l0, s1, s2]
    rw [if_pos (by omega), if_pos (by omega), if_pos (by omega), show wrap64 ((n : Int) - 1) = (n : Int) - 1 by unfold wrap64; omega,
      ih k _ (by omega) (by simp; omega) (by omega), List.append_assoc]
    rfl
theorem pb_ok (x : Int) (n : Nat) (hn : 1 ≤ n ∧ n ≤ 8) (k : Nat) (hk : 9 ≤ k) (acc : List Int) (ha : acc.length ≤ 90) : impl_putBytes.f k acc x (n : Int) = some (acc ++ bl x n) := by
  unfold impl_putBytes.f
  rw [show wrap64 ((n : Int) - 1) = (n : Int) - 1 by unfold wrap64; omega]
  exact pb_go x n k acc (by omega) (by omega) (by omega)
theorem fmt_i (k : Nat) (hk : 20 ≤ k) (l m st po sp o r s : Int) : impl_FormatPacket.f k l m st po sp o r s = some (if VP l m st po sp o r s then FB l m st po sp o r s else []) := by
  obtain ⟨k, rfl⟩ : ∃ j, k = j + 4 := ⟨k - 4, by omega⟩
  unfold impl_FormatPacket.f
  simp only [ivp, Option.bind_some, decide_eq_true_eq]
  by_cases v : VP l m st po sp o r s
  · rw [if_pos v, if_pos v]
    obtain ⟨v1, v2, v3, v4, v5, v6, v7, v8⟩ := v
    have e1 : (wrap64 ((wrap64 ((wrap64 (64 * l)) + 32)) + m)) % 256 = 64 * l + 32 + m := by unfold wrap64; omega
    have e2 : st % 256 = st := by omega
    have e3 : po % 256 = po := by omega
    have p2 := pb_ok sp 2 (by omega) (k + 4) (by omega) [64 * l + 32 + m, st, po] (by simp)
    rw [e1, e2, e3, show (2 : Int) = ((2 : Nat) : Int) from rfl, p2, Option.bind_some]
    have a0 : wrap64 ((0 : Int) + 1) = 1 := by unfold wrap64; omega
    have a1 : wrap64 ((1 : Int) + 1) = 2 := by unfold wrap64; omega
    have a2 : wrap64 ((2 : Int) + 1) = 3 := by unfold wrap64; omega
    have r0 : rd [o, r, s] 0 = o := rfl
    have r1 : rd [o, r, s] 1 = r := rfl
    have r2 : rd [o, r, s] 2 = s := rfl
    have ln : (([o, r, s] : List Int).length : Int) = 3 := rfl
    have q0 : impl_FormatPacket.l0 (k + 4) ([64 * l + 32 + m, st, po] ++ bl sp 2) [o, r, s] 3 0 = impl_FormatPacket.l0 (k + 3) ([64 * l + 32 + m, st, po] ++ bl sp 2 ++ bl o 6) [o, r, s] 3 1 := by
      simp only [impl_FormatPacket.l0, a0, r0, ln]
      have p6 := pb_ok o 6 (by omega) (k + 3) (by omega) ([64 * l + 32 + m, st, po] ++ bl sp 2) (by simp [bl_len])
      rw [if_pos (by omega), if_pos (by omega), if_pos (by omega), show (6 : Int) = ((6 : Nat) : Int) from rfl, p6, Option.bind_some]
    have q1 : impl_FormatPacket.l0 (k + 3) ([64 * l + 32 + m, st, po] ++ bl sp 2 ++ bl o 6) [o, r, s] 3 1 = impl_FormatPacket.l0 (k + 2) ([64 * l + 32 + m, st, po] ++ bl sp 2 ++ bl o 6 ++ bl r 6) [o, r, s] 3 2 := by
      simp only [impl_FormatPacket.l0, a1, r1, ln]
      have p6 := pb_ok r 6 (by omega) (k + 2) (by omega) ([64 * l + 32 + m, st, po] ++ bl sp 2 ++ bl o 6) (by simp [bl_len])
      rw [if_pos (by omega), if_pos (by omega), if_pos (by omega), show (6 : Int) = ((6 : Nat) : Int) from rfl, p6, Option.bind_some]
    have q2 : impl_FormatPacket.l0 (k + 2) ([64 * l + 32 + m, st, po] ++ bl sp 2 ++ bl o 6 ++ bl r 6) [o, r, s] 3 2 = impl_FormatPacket.l0 (k + 1) ([64 * l + 32 + m, st, po] ++ bl sp 2 ++ bl o 6 ++ bl r 6 ++ bl s 6) [o, r, s] 3 3 := by
      simp only [impl_FormatPacket.l0, a2, r2, ln]
      have p6 := pb_ok s 6 (by omega) (k + 1) (by omega) ([64 * l + 32 + m, st, po] ++ bl sp 2 ++ bl o 6 ++ bl r 6) (by simp [bl_len])
      rw [if_pos (by omega), if_pos (by omega), if_pos (by omega), show (6 : Int) = ((6 : Nat) : Int) from rfl, p6, Option.bind_some]
    have q3 : impl_FormatPacket.l0 (k + 1) ([64 * l + 32 + m, st, po] ++ bl sp 2 ++ bl o 6 ++ bl r 6 ++ bl s 6) [o, r, s] 3 3 = some (FB l m st po sp o r s) := by
      simp only [impl_FormatPacket.l0]
      rw [if_neg (by omega)]; rfl
    simp only [ln]
    rw [q0, q1, q2, q3]
  · rw [if_neg v, if_neg v]

theorem bl_snoc (y : Int) (n : Nat) : bl y (n + 1) = bl (y / 256) n ++ [y % 256] := by
  induction n with
  | zero => simp [bl]
  | succ n ih =>
    have e : y / 2 ^ (8 * (n + 1)) = y / 256 / 2 ^ (8 * n) := by
      rw [Int.ediv_ediv_of_nonneg (by decide), show (2 : Int) ^ (8 * (n + 1)) = 256 * 2 ^ (8 * n) by rw [show 8 * (n + 1) = 8 + 8 * n by omega, Int.pow_add]; rfl]
    rw [show bl y (n + 1 + 1) = (y / 2 ^ (8 * (n + 1))) % 256 :: bl y (n + 1) from rfl, ih, e]
    rfl
theorem bo_go : ∀ (n k : Nat) (y : Int) (L : List Int), n < k → n ≤ 100 → L.length + n ≤ 100 → 0 ≤ y → y ≤ 4611686018427387904 → spec_bytesOf.l0 k y (List.replicate n 0 ++ L) ((n : Int) - 1) = some (bl y n ++ L) := by
  intro n
  induction n with
  | zero =>
    intro k y L hk hn hL hy hy2
    obtain ⟨k, rfl⟩ : ∃ m, k = m + 1 := ⟨k - 1, by omega⟩
    simp only [spec_bytesOf.l0]; rw [if_neg (by omega)]; rfl
  | succ n ih =>
    intro k y L hk hn hL hy hy2
    obtain ⟨k, rfl⟩ : ∃ m, k = m + 1 := ⟨k - 1, by omega⟩
    have hs : (List.replicate (n + 1) 0 ++ L).set n (y % 256) = List.replicate n 0 ++ (y % 256 :: L) := by
      rw [List.replicate_succ', List.append_assoc, List.set_append_right _ _ (by simp), List.length_replicate, Nat.sub_self]; rfl
    rw [show ((n + 1 : Nat) : Int) - 1 = (n : Int) by omega]
    simp only [spec_bytesOf.l0]
    rw [if_pos (by omega), if_pos (by omega), if_pos (by simp; omega), Int.toNat_natCast, Int.tmod_eq_emod_of_nonneg hy, Int.tdiv_eq_ediv_of_nonneg hy, Int.emod_emod, hs,
      show wrap64 (y / 256) = y / 256 by unfold wrap64; omega, show wrap64 ((n : Int) - 1) = (n : Int) - 1 by unfold wrap64; omega,
      ih k (y / 256) _ (by omega) (by omega) (by simp; omega) (by omega) (by omega), bl_snoc, List.append_assoc]
    rfl
theorem bo_ok (y : Int) (hy : 0 ≤ y) (hy2 : y ≤ 4611686018427387904) (n : Nat) (hn : n ≤ 8) (k : Nat) (hk : 9 ≤ k) : spec_bytesOf.f k y (n : Int) = some (bl y n) := by
  unfold spec_bytesOf.f
  rw [if_pos (by omega), if_pos (by omega), Int.toNat_natCast, show wrap64 ((n : Int) - 1) = (n : Int) - 1 by unfold wrap64; omega]
  have := bo_go n k y [] (by omega) (by omega) (by simp; omega) hy hy2
  rw [List.append_nil, List.append_nil] at this
  exact this
theorem fmt_s (k : Nat) (hk : 20 ≤ k) (l m st po sp o r s : Int) : spec_FormatPacket.f k l m st po sp o r s = some (if VP l m st po sp o r s then FB l m st po sp o r s else []) := by
  unfold spec_FormatPacket.f
  simp only [svp, Option.bind_some, decide_eq_true_eq]
  by_cases v : VP l m st po sp o r s
  · rw [if_pos v, if_pos v]
    obtain ⟨v1, v2, v3, v4, v5, v6, v7, v8⟩ := v
    have e1 : (wrap64 ((wrap64 ((wrap64 (64 * l)) + 32)) + m)) % 256 = 64 * l + 32 + m := by unfold wrap64; omega
    have e2 : st % 256 = st := by omega
    have e3 : po % 256 = po := by omega
    have b2 : spec_bytesOf.f k sp 2 = some (bl sp 2) := bo_ok sp (by omega) (by omega) 2 (by omega) k (by omega)
    have b3 : spec_bytesOf.f k o 6 = some (bl o 6) := bo_ok o (by omega) (by omega) 6 (by omega) k (by omega)
    have b4 : spec_bytesOf.f k r 6 = some (bl r 6) := bo_ok r (by omega) (by omega) 6 (by omega) k (by omega)
    have b5 : spec_bytesOf.f k s 6 = some (bl s 6) := bo_ok s (by omega) (by omega) 6 (by omega) k (by omega)
    rw [e1, e2, e3]
    simp only [b2, b3, b4, b5, Option.bind_some, bl_len, List.length_append, List.length_cons, List.length_nil]
    rw [if_pos (by omega), if_pos (by omega), if_pos (by omega), if_pos (by omega)]
    rfl
  · rw [if_neg v, if_neg v]

theorem rd_at {l : List Int} {i : Nat} (h : i < l.length) : rd l (i : Int) = l[i] := by
  unfold rd
  rw [List.getD_eq_getElem?_getD, Int.toNat_natCast, List.getElem?_eq_getElem h, Option.getD_some]
theorem w_succ {i n : Nat} (h : i < n) (hn : n ≤ 4611686018427387904) : wrap64 ((i : Int) + 1) = ((i + 1 : Nat) : Int) := by
  unfold wrap64; omega

theorem equalBytes_go (l : List Int) (hl : l.length ≤ 4000000) : ∀ (d k i : Nat), i + d = l.length → d < k → laws_equalBytes.l0 k l l (i : Int) = some true := by
  intro d
  induction d with
  | zero =>
    intro k i hi hk
    obtain ⟨k, rfl⟩ : ∃ m, k = m + 1 := ⟨k - 1, by omega⟩
    simp only [laws_equalBytes.l0]; rw [if_neg (by omega)]
  | succ d ih =>
    intro k i hi hk
    obtain ⟨k, rfl⟩ : ∃ m, k = m + 1 := ⟨k - 1, by omega⟩
    have hlt : i < l.length := by omega
    simp only [laws_equalBytes.l0, if_true]
    rw [if_pos (by omega), if_pos (by omega), if_pos (by omega), w_succ hlt (by omega), ih k (i + 1) (by omega) (by omega)]
theorem equalBytes_refl (l : List Int) (hl : l.length ≤ 4000000) (k : Nat) (hk : l.length < k) : laws_equalBytes.f k l l = some true := by
  unfold laws_equalBytes.f
  rw [if_pos rfl]
  exact equalBytes_go l hl l.length k 0 (by omega) hk

theorem xor_nn (a b : Nat) (ha : a < 4611686018427387904) (hb : b < 4611686018427387904) :
    Go.bits .xor .i64 (a : Int) (b : Int) = ((a ^^^ b : Nat) : Int) := by
  have hx : a ^^^ b < 2 ^ 62 := Nat.xor_lt_two_pow (by omega) (by omega)
  have h1 : (BitVec.ofInt 64 (a : Int)).toNat = a := by
    rw [BitVec.ofInt_natCast, BitVec.toNat_ofNat]; exact Nat.mod_eq_of_lt (by omega)
  have h2 : (BitVec.ofInt 64 (b : Int)).toNat = b := by
    rw [BitVec.ofInt_natCast, BitVec.toNat_ofNat]; exact Nat.mod_eq_of_lt (by omega)
  show IntKind.i64.wrap ((BitVec.ofInt 64 (a : Int) ^^^ BitVec.ofInt 64 (b : Int)).toNat : Int) = _
  rw [BitVec.toNat_xor, h1, h2]
  simp [IntKind.wrap, IntKind.bits, IntKind.signed]
  omega
theorem xor_nonneg (a b : Int) (ha : 0 ≤ a) (ha2 : a < 4611686018427387904) (hb : 0 ≤ b) (hb2 : b < 4611686018427387904) :
    0 ≤ Go.bits .xor .i64 a b := by
  obtain ⟨m, rfl⟩ := Int.eq_ofNat_of_zero_le ha
  obtain ⟨n, rfl⟩ := Int.eq_ofNat_of_zero_le hb
  have := xor_nn m n (by omega) (by omega)
  try simp only [Int.ofNat_eq_natCast] at this ⊢
  rw [this]; omega
/-- What a reader's bytes are. -/
def Byts (b : List Int) : Prop := b.length ≤ 2000 ∧ ∀ x ∈ b, 0 ≤ x ∧ x ≤ 255
theorem Byts.get {b : List Int} (h : Byts b) (i : Int) : 0 ≤ rd b i ∧ rd b i ≤ 255 := by
  unfold rd
  rw [List.getD_eq_getElem?_getD]
  by_cases hi : i.toNat < b.length
  · rw [List.getElem?_eq_getElem hi]; exact h.2 _ (List.getElem_mem hi)
  · rw [List.getElem?_eq_none (by omega)]; simp
theorem pick_ok (k : Nat) (hk : 1 ≤ k) {b : List Int} (hb : Byts b) {p : Int} (hp : 0 ≤ p) (hp2 : p ≤ 1000000) (n : Int) :
    ∃ v, spec_reader_pick.f k b p n = some (v, p + 1) ∧ 0 ≤ v ∧ (1 ≤ n → v < n) ∧ (n < 1 → v = 0) := by
  obtain ⟨k, rfl⟩ : ∃ m, k = m + 1 := ⟨k - 1, by omega⟩
  have hl := hb.1
  have w1 : wrap64 (p + 1) = p + 1 := by unfold wrap64; omega
  have w2 : wrap64 (p + 1 - 1) = p := by unfold wrap64; omega
  unfold spec_reader_pick.f
  rw [w1]
  by_cases hn : n < 1
  · rw [if_pos hn]
    exact ⟨0, by simp [spec_reader_pick.j0], by omega, by omega, fun _ => rfl⟩
  · rw [if_neg hn]
    by_cases he : (b.length : Int) = 0
    · refine ⟨0, ?_, by omega, by omega, fun _ => rfl⟩
      rw [show ((b.length : Int) == 0) = true by simpa using he]
      simp [spec_reader_pick.j0]
    · rw [show ((b.length : Int) == 0) = false by simpa using he]
      simp only [spec_reader_pick.j0, w2, if_neg (show ¬ (false = true) by decide), if_pos hp, if_neg (show ¬ n = 0 by omega)]
      by_cases hlt : p < (b.length : Int)
      · obtain ⟨r0, r1⟩ := hb.get p
        have w3 : wrap64 (rd b p) = rd b p := by unfold wrap64; omega
        rw [if_pos hlt, w3, Int.tmod_eq_emod_of_nonneg r0]
        exact ⟨_, rfl, Int.emod_nonneg _ (by omega), fun _ => Int.emod_lt_of_pos _ (by omega), fun _ => by omega⟩
      · have e1 := Int.tmod_eq_emod_of_nonneg (b := (b.length : Int)) hp
        have e2 : wrap64 (wrap64 (p * 7) + 3) = p * 7 + 3 := by unfold wrap64; omega
        have e3 := Int.tmod_eq_emod_of_nonneg (b := (b.length : Int)) (a := p * 7 + 3) (by omega)
        have e4 := Int.tdiv_eq_ediv_of_nonneg (b := (b.length : Int)) hp
        have n1 := Int.emod_nonneg p he
        have n2 := Int.emod_lt_of_pos p (show 0 < (b.length : Int) by omega)
        have n3 := Int.emod_nonneg (p * 7 + 3) he
        have n4 := Int.emod_lt_of_pos (p * 7 + 3) (show 0 < (b.length : Int) by omega)
        have n5 : 0 ≤ p / (b.length : Int) := Int.ediv_nonneg hp (by omega)
        have n6 : p / (b.length : Int) ≤ p := Int.ediv_le_self _ hp
        rw [if_neg hlt, if_neg he, e2, e1, e3, e4, if_pos n1, if_pos n2, if_pos n3, if_pos n4]
        obtain ⟨r0, r1⟩ := hb.get (p % (b.length : Int))
        obtain ⟨q0, q1⟩ := hb.get ((p * 7 + 3) % (b.length : Int))
        generalize rd b (p % (b.length : Int)) = x at *
        generalize rd b ((p * 7 + 3) % (b.length : Int)) = y at *
        generalize p / (b.length : Int) = z at *
        have w3 : wrap64 (wrap64 (wrap64 (wrap64 (wrap64 x * 131) + wrap64 (wrap64 y * 1117)) + wrap64 (p * 29)) + wrap64 (wrap64 z * 53)) = x * 131 + y * 1117 + p * 29 + z * 53 := by unfold wrap64; omega
        rw [w3]
        have w4 : wrap64 (Int.tdiv (x * 131 + y * 1117 + p * 29 + z * 53) 64) = (x * 131 + y * 1117 + p * 29 + z * 53) / 64 := by
          rw [Int.tdiv_eq_ediv_of_nonneg (by omega)]; unfold wrap64; omega
        rw [w4]
        have hx := xor_nonneg (x * 131 + y * 1117 + p * 29 + z * 53) ((x * 131 + y * 1117 + p * 29 + z * 53) / 64) (by omega) (by omega) (by omega) (by omega)
        rw [Int.tmod_eq_emod_of_nonneg hx]
        exact ⟨_, rfl, Int.emod_nonneg _ (by omega), fun _ => Int.emod_lt_of_pos _ (by omega), fun _ => by omega⟩

theorem reader_ok (l : List Int) (h : ∀ x ∈ l, (Lit.int .u8 x).wf = true) : ∃ b, spec_newReader.f l = some (b, 0) ∧ Byts b := by
  have h' : ∀ x ∈ l, 0 ≤ x ∧ x ≤ 255 := fun x hx => by
    have := h x hx
    simp [Lit.wf, IntKind.min, IntKind.max, IntKind.bits, IntKind.signed] at this
    omega
  unfold spec_newReader.f
  by_cases c : (l.length : Int) > 2000
  · rw [if_pos c, if_pos (by omega)]
    exact ⟨_, rfl, by simp; omega, fun x hx => h' x (List.mem_of_mem_take hx)⟩
  · rw [if_neg c]
    exact ⟨_, rfl, by omega, h'⟩

theorem one_ok (k : Nat) (hk : 1 ≤ k) {b : List Int} (hb : Byts b) {p : Int} (hp : 0 ≤ p) (hp2 : p ≤ 1000000) (l : List Int) (hl : l ≠ []) :
    ∃ v, spec_reader_one.f k b p l = some (v, p + 1) ∧ v ∈ l := by
  have hlen : 1 ≤ l.length := List.length_pos_iff.mpr hl
  obtain ⟨i, hi, h0, h1, h2⟩ := pick_ok k hk hb hp hp2 (l.length : Int)
  have h1 := h1 (by omega)
  unfold spec_reader_one.f
  rw [hi]
  simp only [Option.bind_some]
  rw [if_pos h0, if_pos h1]
  refine ⟨_, rfl, ?_⟩
  unfold rd
  rw [List.getD_eq_getElem?_getD, List.getElem?_eq_getElem (by omega)]
  exact List.getElem_mem _


theorem somestamp_ok (k : Nat) (hk : 1 ≤ k) {b : List Int} (hb : Byts b) {p : Int} (hp : 0 ≤ p) (hp2 : p ≤ 900000) :
    ∃ v, spec_someStamp.f k b p = some (v, p + 3) ∧ 0 ≤ v ∧ v ≤ 249000001743 * 1000 := by
  unfold spec_someStamp.f
  obtain ⟨v1, h1, m1⟩ := pick_ok k hk hb hp (by omega) 250
  rw [h1]; simp only [Option.bind_some]
  obtain ⟨v2, h2, m2⟩ := pick_ok k hk hb (p := p + 1) (by omega) (by omega) 250
  rw [h2]; simp only [Option.bind_some]
  have e1 : wrap64 (1000 * v1) = 1000 * v1 := by unfold wrap64; omega
  have e2 : wrap64 (1000000007 * v2) = 1000000007 * v2 := by unfold wrap64; omega
  rw [e1, e2]
  obtain ⟨v3, h3, m3⟩ := one_ok k hk hb (p := p + 1 + 1) (by omega) (by omega) ([0, 1, 999999, 1000000, 200000000999999, 123456789012, 1000 * v1, 1000000007 * v2]) (by simp)
  rw [h3]; simp only [Option.bind_some]
  refine ⟨v3, by rw [show p + 1 + 1 + 1 = p + 3 by omega], ?_⟩
  simp only [List.mem_cons, List.not_mem_nil, or_false] at m3
  omega

theorem anypacket_ok (k : Nat) (hk : 1 ≤ k) {b : List Int} (hb : Byts b) {p : Int} (hp : 0 ≤ p) (hp2 : p ≤ 800000) :
    ∃ l m st po sp o r s q, spec_anyPacket.f k b p = some (l, m, st, po, sp, o, r, s, q) ∧ p ≤ q ∧ q ≤ p + 16 := by
  unfold spec_anyPacket.f
  obtain ⟨v1, h1, m1⟩ := one_ok k hk hb hp (by omega) ([0, 0, 1, 3]) (by simp)
  rw [h1]; simp only [Option.bind_some]
  obtain ⟨v2, h2, m2⟩ := one_ok k hk hb (p := p + 1) (by omega) (by omega) ([3, 4, 3, 0, 7]) (by simp)
  rw [h2]; simp only [Option.bind_some]
  obtain ⟨v3, h3, m3⟩ := one_ok k hk hb (p := p + 1 + 1) (by omega) (by omega) ([1, 0, 1, 15]) (by simp)
  rw [h3]; simp only [Option.bind_some]
  obtain ⟨v4, h4, m4⟩ := one_ok k hk hb (p := p + 1 + 1 + 1) (by omega) (by omega) ([6, 0, 10, 17]) (by simp)
  rw [h4]; simp only [Option.bind_some]
  obtain ⟨v5, h5, m5⟩ := one_ok k hk hb (p := p + 1 + 1 + 1 + 1) (by omega) (by omega) ([0, 100, 65535, 256]) (by simp)
  rw [h5]; simp only [Option.bind_some]
  obtain ⟨v6, h6, m6⟩ := somestamp_ok k hk hb (p := p + 1 + 1 + 1 + 1 + 1) (by omega) (by omega)
  rw [h6]; simp only [Option.bind_some]
  obtain ⟨v7, h7, m7⟩ := somestamp_ok k hk hb (p := p + 1 + 1 + 1 + 1 + 1 + 3) (by omega) (by omega)
  rw [h7]; simp only [Option.bind_some]
  obtain ⟨v8, h8, m8⟩ := somestamp_ok k hk hb (p := p + 1 + 1 + 1 + 1 + 1 + 3 + 3) (by omega) (by omega)
  rw [h8]; simp only [Option.bind_some]
  obtain ⟨v9, h9, m9⟩ := pick_ok k hk hb (p := p + 1 + 1 + 1 + 1 + 1 + 3 + 3 + 3) (by omega) (by omega) 24
  rw [h9]; simp only [Option.bind_some]
  by_cases c0 : v9 = 0
  · rw [if_pos c0]
    obtain ⟨w, h, _⟩ := one_ok k hk hb (p := p + 1 + 1 + 1 + 1 + 1 + 3 + 3 + 3 + 1) (by omega) (by omega) ([(-1), 4]) (by simp)
    rw [h]; exact ⟨_, _, _, _, _, _, _, _, _, rfl, by omega, by omega⟩
  · rw [if_neg c0]
    by_cases c1 : v9 = 1
    · rw [if_pos c1]
      obtain ⟨w, h, _⟩ := one_ok k hk hb (p := p + 1 + 1 + 1 + 1 + 1 + 3 + 3 + 3 + 1) (by omega) (by omega) ([(-1), 16]) (by simp)
      rw [h]; exact ⟨_, _, _, _, _, _, _, _, _, rfl, by omega, by omega⟩
    · rw [if_neg c1]
      by_cases c2 : v9 = 2
      · rw [if_pos c2]
        obtain ⟨w, h, _⟩ := one_ok k hk hb (p := p + 1 + 1 + 1 + 1 + 1 + 3 + 3 + 3 + 1) (by omega) (by omega) ([(-1), 65536]) (by simp)
        rw [h]; exact ⟨_, _, _, _, _, _, _, _, _, rfl, by omega, by omega⟩
      · rw [if_neg c2]
        by_cases c3 : v9 = 3
        · rw [if_pos c3]
          obtain ⟨w, h, _⟩ := one_ok k hk hb (p := p + 1 + 1 + 1 + 1 + 1 + 3 + 3 + 3 + 1) (by omega) (by omega) ([(-1), 200000001000000]) (by simp)
          rw [h]; exact ⟨_, _, _, _, _, _, _, _, _, rfl, by omega, by omega⟩
        · rw [if_neg c3]
          by_cases c4 : v9 = 4
          · rw [if_pos c4]
            obtain ⟨w, h, _⟩ := one_ok k hk hb (p := p + 1 + 1 + 1 + 1 + 1 + 3 + 3 + 3 + 1) (by omega) (by omega) ([(-1), 18]) (by simp)
            rw [h]; exact ⟨_, _, _, _, _, _, _, _, _, rfl, by omega, by omega⟩
          · rw [if_neg c4]
            exact ⟨_, _, _, _, _, _, _, _, _, rfl, by omega, by omega⟩

theorem drawFormatPacket_ok (k : Nat) (hk : 1 ≤ k) (l0 : List Int) (hw : ∀ x ∈ l0, (Lit.int .u8 x).wf = true) : ∃ l m st po sp o r s, spec_DrawFormatPacket.f k l0 = some (l, m, st, po, sp, o, r, s) := by
  obtain ⟨b, hr, hb⟩ := reader_ok l0 hw
  obtain ⟨l, m, st, po, sp, o, r, s, q, hs, _, _⟩ := anypacket_ok k hk hb (p := 0) (by omega) (by omega)
  exact ⟨l, m, st, po, sp, o, r, s, by unfold spec_DrawFormatPacket.f; rw [hr]; simp only [Option.bind_some]; rw [hs]; rfl⟩

theorem FnPacketVersion : laws_FnPacketVersion.Pure := by
  intro l0 _ _ hw
  refine ⟨40, ?_⟩
  unfold laws_FnPacketVersion.f
  by_cases c : (l0.length : Int) > 1048576
  · rw [if_pos c]
  · rw [if_neg c]
    obtain ⟨l, m, st, po, sp, o, r, s, hd⟩ := drawFormatPacket_ok 40 (by omega) l0 hw
    rw [hd]
    simp only [Option.bind_some, fmt_i 40 (by omega), fmt_s 40 (by omega), fmt_s 39 (by omega)]
    by_cases v : VP l m st po sp o r s
    · rw [if_pos v, equalBytes_refl _ (by rw [FB_len]; omega) 40 (by rw [FB_len]; omega)]
      have hl := FB_len l m st po sp o r s
      have x0 : rd (FB l m st po sp o r s) 0 = 64 * l + 32 + m := rfl
      have x1 : rd (FB l m st po sp o r s) 1 = st := rfl
      have x2 : rd (FB l m st po sp o r s) 2 = po := rfl
      obtain ⟨v1, v2, v3, v4, v5, v6, v7, v8⟩ := v
      have w0 : wrap64 (64 * l + 32 + m) = 64 * l + 32 + m := by unfold wrap64; omega
      have w1 : wrap64 st = st := by unfold wrap64; omega
      have w2 : wrap64 po = po := by unfold wrap64; omega
      have d1 : wrap64 (Int.tdiv (64 * l + 32 + m) 64) = l := by rw [Int.tdiv_eq_ediv_of_nonneg (by omega)]; unfold wrap64; omega
      have d2 : Int.tmod (wrap64 (Int.tdiv (64 * l + 32 + m) 8)) 8 = 4 := by
        rw [Int.tdiv_eq_ediv_of_nonneg (by omega), show wrap64 ((64 * l + 32 + m) / 8) = (64 * l + 32 + m) / 8 by unfold wrap64; omega, Int.tmod_eq_emod_of_nonneg (by omega)]; omega
      have d3 : Int.tmod (64 * l + 32 + m) 8 = m := by rw [Int.tmod_eq_emod_of_nonneg (by omega)]; omega
      simp only [Option.bind_some, if_true, laws_FnPacketVersion.j0, hl, x0, x1, x2, w0, w1, w2, d1, d2, d3]
      simp
    · rw [if_neg v, equalBytes_refl [] (by simp) 40 (by simp)]
      have e39 : laws_equalBytes.f 39 [] [] = some true := equalBytes_refl [] (by simp) 39 (by simp)
      simp [laws_FnPacketVersion.j0, fmt_s 39 (by omega), v, e39]

end Go.Proofs.Ytilnodnkknamhaa.Pure
namespace Go.Proofs.Ytilnodnkknamhaa.PrintWords
/-- Under this name the row asks for it. -/
theorem sized_ints {H : Type} {enc : TypeId × Value → H} {P : Program} {W : World} {base : Nat} {spare : Nat → Bool} {held : Bool} {t e : TypeId} {k : IntKind} {a : Option Addr} {len cap : Nat} {d : DataW H} {ps : List MemPlace} {ts : List TypeId} {ds : List (DataW H)} {j : Nat}
    (hsz : (DataW.weightsEach P ts ds).all (· ≤ reachBytes) = true) (ht : ts[j]? = some t) (hd : ds[j]? = some d) (hu : P.underlying t = some (.slice e)) (he : P.underlying e = some (.int k)) (hc : P.cellsOf e = 1) {B : Nat} (hB : P.bytesOf e = B)
    (h : DataW.Trod enc P W base spare held t (.slice a len cap) d ps) : len * B ≤ 140737488351232 :=
  Go.Proofs.YtilnodnkknamhaaW.PrintWords.sized_ints hsz ht hd hu he hc hB h
end Go.Proofs.Ytilnodnkknamhaa.PrintWords
