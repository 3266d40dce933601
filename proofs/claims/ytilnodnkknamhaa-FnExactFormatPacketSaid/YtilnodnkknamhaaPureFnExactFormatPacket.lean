/- FormatPacket of the program returns what FormatPacket of the reference returns, for every eight integers of 64 bits, in memory that it shares with no other call. -/
import Derived.Test.YtilnodnkknamhaaPFnExactFormatPacketx0
import Derived.Test.YtilnodnkknamhaaPFnExactFormatPacketx1
import Derived.Test.YtilnodnkknamhaaPFnExactFormatPacketx2
namespace Go.Proofs.Ytilnodnkknamhaa.Pure
open Go.RowKit Go.Proofs.Ytilnodnkknamhaa.PFnExactFormatPacket Go.Proofs.YtilnodnkknamhaaW.PrintWords Go.Proofs.YtilnodnkknamhaaW.PrintLast Go.Proofs.YtilnodnkknamhaaW.PrintMore
set_option linter.unusedVariables false
set_option linter.unusedSimpArgs false
theorem inR (a b c : Int) : spec_inRange.f a b c = some (decide (b ≤ a ∧ a ≤ c)) := by
  unfold spec_inRange.f; by_cases h : b ≤ a <;> simp [h]
theorem wiT (a b c : Int) : impl_within.f a b c = some (decide (b ≤ a ∧ a ≤ c)) := by
  unfold impl_within.f; by_cases h : b ≤ a <;> simp [h]

/-- A valid packet, in numbers. -/
def VP (l m st po sp o r s : Int) : Prop := (0 ≤ l ∧ l ≤ 3) ∧ (0 ≤ m ∧ m ≤ 7) ∧ (0 ≤ st ∧ st ≤ 15) ∧ (0 ≤ po ∧ po ≤ 17) ∧ (0 ≤ sp ∧ sp ≤ 65535) ∧ (0 ≤ o ∧ o ≤ 200000000999999) ∧ (0 ≤ r ∧ r ≤ 200000000999999) ∧ (0 ≤ s ∧ s ≤ 200000000999999)
instance (l m st po sp o r s : Int) : Decidable (VP l m st po sp o r s) := by unfold VP; infer_instance
theorem and_step (p q : Prop) [Decidable p] [Decidable q] (x : Option Bool) (hx : x = some (decide q)) : (if p then x else some false) = some (decide (p ∧ q)) := by
  by_cases h : p <;> simp [h, hx]
theorem ivp (l m st po sp o r s : Int) : impl_ValidPacket.f l m st po sp o r s = some (decide (VP l m st po sp o r s)) := by
  unfold impl_ValidPacket.f impl_isStamp.f VP
  simp only [wiT, Option.bind_some, decide_eq_true_eq]
  repeat (apply and_step)
  rfl

theorem svp (l m st po sp o r s : Int) : spec_validPacket.f l m st po sp o r s = some (decide (VP l m st po sp o r s)) := by
  unfold spec_validPacket.f spec_validStamp.f VP
  simp only [inR, Option.bind_some, decide_eq_true_eq]
  repeat (apply and_step)
  rfl

/-- The last bytes of a number, the highest one first. -/
def bl (x : Int) : Nat → List Int
  | 0 => []
  | n + 1 => (x / 2 ^ (8 * n)) % 256 :: bl x n
theorem bl_len (x : Int) (n : Nat) : (bl x n).length = n := by
  induction n with
  | zero => rfl
  | succ n ih => simp [bl, ih]
theorem bl_bd (x : Int) (n : Nat) : ∀ y ∈ bl x n, 0 ≤ y ∧ y ≤ 255 := by
  induction n with
  | zero => intro y hy; simp [bl] at hy
  | succ n ih =>
    intro y hy
    rcases List.mem_cons.mp hy with rfl | hy
    · omega
    · exact ih y hy
/-- The bytes of a packet. -/
def FB (l m st po sp o r s : Int) : List Int := [64 * l + 32 + m, st, po] ++ bl sp 2 ++ bl o 6 ++ bl r 6 ++ bl s 6
theorem FB_len (l m st po sp o r s : Int) : (FB l m st po sp o r s).length = 23 := by
  unfold FB; simp [bl_len]
theorem sh_ok (x : Int) (j : Nat) (h : j ≤ 7) : IntKind.u64.wrap (wrap64 (8 * (j : Int))) = ((8 * j : Nat) : Int) ∧ shr .i64 x ((8 * j : Nat) : Int) = x / 2 ^ (8 * j) := by
  refine ⟨?_, ?_⟩
  · have e : wrap64 (8 * (j : Int)) = ((8 * j : Nat) : Int) := by unfold wrap64; omega
    rw [e]; simp [IntKind.wrap, IntKind.bits, IntKind.signed]; omega
  · unfold shr
    rw [Int.toNat_natCast, Nat.min_eq_left (by simp [IntKind.bits]; omega)]
theorem pb_go (x : Int) : ∀ (n k : Nat) (acc : List Int), n < k → acc.length + n ≤ 100 → n ≤ 8 → impl_putBytes.l0 k acc x ((n : Int) - 1) = some (acc ++ bl x n) := by
  intro n
  induction n with
  | zero =>
    intro k acc hk ha hn
    obtain ⟨k, rfl⟩ : ∃ m, k = m + 1 := ⟨k - 1, by omega⟩
    simp only [impl_putBytes.l0, bl]; rw [if_neg (by omega), List.append_nil]
  | succ n ih =>
    intro k acc hk ha hn
    obtain ⟨k, rfl⟩ : ∃ m, k = m + 1 := ⟨k - 1, by omega⟩
    obtain ⟨s1, s2⟩ := sh_ok x n (by omega)
    rw [show ((n + 1 : Nat) : Int) - 1 = (n : Int) by omega]
    simp only [impl_putBytes.l0, s1, s2]
    rw [if_pos (by omega), if_pos (by omega), if_pos (by omega), show wrap64 ((n : Int) - 1) = (n : Int) - 1 by unfold wrap64; omega,
      ih k _ (by omega) (by simp; omega) (by omega), List.append_assoc]
    rfl
theorem pb_ok (x : Int) (n : Nat) (hn : 1 ≤ n ∧ n ≤ 8) (k : Nat) (hk : 9 ≤ k) (acc : List Int) (ha : acc.length ≤ 90) : impl_putBytes.f k acc x (n : Int) = some (acc ++ bl x n) := by
  unfold impl_putBytes.f
  rw [show wrap64 ((n : Int) - 1) = (n : Int) - 1 by unfold wrap64; omega]
  exact pb_go x n k acc (by omega) (by omega) (by omega)
theorem fmt_i (k : Nat) (hk : 20 ≤ k) (l m st po sp o r s : Int) : impl_FormatPacket.f k l m st po sp o r s = some (if VP l m st po sp o r s then FB l m st po sp o r s else []) := by
  obtain ⟨k, rfl⟩ : ∃ j, k = j + 4 := ⟨k - 4, by omega⟩
  unfold impl_FormatPacket.f
  simp only [ivp, Option.bind_some, decide_eq_true_eq]
  by_cases v : VP l m st po sp o r s
  · rw [if_pos v, if_pos v]
    obtain ⟨v1, v2, v3, v4, v5, v6, v7, v8⟩ := v
    have e1 : (wrap64 ((wrap64 ((wrap64 (64 * l)) + 32)) + m)) % 256 = 64 * l + 32 + m := by unfold wrap64; omega
    have e2 : st % 256 = st := by omega
    have e3 : po % 256 = po := by omega
    have p2 := pb_ok sp 2 (by omega) (k + 4) (by omega) [64 * l + 32 + m, st, po] (by simp)
    rw [e1, e2, e3, show (2 : Int) = ((2 : Nat) : Int) from rfl, p2, Option.bind_some]
    have a0 : wrap64 ((0 : Int) + 1) = 1 := by unfold wrap64; omega
    have a1 : wrap64 ((1 : Int) + 1) = 2 := by unfold wrap64; omega
    have a2 : wrap64 ((2 : Int) + 1) = 3 := by unfold wrap64; omega
    have r0 : rd [o, r, s] 0 = o := rfl
    have r1 : rd [o, r, s] 1 = r := rfl
    have r2 : rd [o, r, s] 2 = s := rfl
    have ln : (([o, r, s] : List Int).length : Int) = 3 := rfl
    have q0 : impl_FormatPacket.l0 (k + 4) ([64 * l + 32 + m, st, po] ++ bl sp 2) [o, r, s] 3 0 = impl_FormatPacket.l0 (k + 3) ([64 * l + 32 + m, st, po] ++ bl sp 2 ++ bl o 6) [o, r, s] 3 1 := by
      simp only [impl_FormatPacket.l0, a0, r0, ln]
      have p6 := pb_ok o 6 (by omega) (k + 3) (by omega) ([64 * l + 32 + m, st, po] ++ bl sp 2) (by simp [bl_len])
      rw [if_pos (by omega), if_pos (by omega), if_pos (by omega), show (6 : Int) = ((6 : Nat) : Int) from rfl, p6, Option.bind_some]
    have q1 : impl_FormatPacket.l0 (k + 3) ([64 * l + 32 + m, st, po] ++ bl sp 2 ++ bl o 6) [o, r, s] 3 1 = impl_FormatPacket.l0 (k + 2) ([64 * l + 32 + m, st, po] ++ bl sp 2 ++ bl o 6 ++ bl r 6) [o, r, s] 3 2 := by
      simp only [impl_FormatPacket.l0, a1, r1, ln]
      have p6 := pb_ok r 6 (by omega) (k + 2) (by omega) ([64 * l + 32 + m, st, po] ++ bl sp 2 ++ bl o 6) (by simp [bl_len])
      rw [if_pos (by omega), if_pos (by omega), if_pos (by omega), show (6 : Int) = ((6 : Nat) : Int) from rfl, p6, Option.bind_some]
    have q2 : impl_FormatPacket.l0 (k + 2) ([64 * l + 32 + m, st, po] ++ bl sp 2 ++ bl o 6 ++ bl r 6) [o, r, s] 3 2 = impl_FormatPacket.l0 (k + 1) ([64 * l + 32 + m, st, po] ++ bl sp 2 ++ bl o 6 ++ bl r 6 ++ bl s 6) [o, r, s] 3 3 := by
      simp only [impl_FormatPacket.l0, a2, r2, ln]
      have p6 := pb_ok s 6 (by omega) (k + 1) (by omega) ([64 * l + 32 + m, st, po] ++ bl sp 2 ++ bl o 6 ++ bl r 6) (by simp [bl_len])
      rw [if_pos (by omega), if_pos (by omega), if_pos (by omega), show (6 : Int) = ((6 : Nat) : Int) from rfl, p6, Option.bind_some]
    have q3 : impl_FormatPacket.l0 (k + 1) ([64 * l + 32 + m, st, po] ++ bl sp 2 ++ bl o 6 ++ bl r 6 ++ bl s 6) [o, r, s] 3 3 = some (FB l m st po sp o r s) := by
      simp only [impl_FormatPacket.l0]
      rw [if_neg (by omega)]; rfl
    simp only [ln]
    rw [q0, q1, q2, q3]
  · rw [if_neg v, if_neg v]

theorem bl_snoc (y : Int) (n : Nat) : bl y (n + 1) = bl (y / 256) n ++ [y % 256] := by
  induction n with
  | zero => simp [bl]
  | succ n ih =>
    have e : y / 2 ^ (8 * (n + 1)) = y / 256 / 2 ^ (8 * n) := by
      rw [Int.ediv_ediv_of_nonneg (by decide), show (2 : Int) ^ (8 * (n + 1)) = 256 * 2 ^ (8 * n) by rw [show 8 * (n + 1) = 8 + 8 * n by omega, Int.pow_add]; rfl]
    rw [show bl y (n + 1 + 1) = (y / 2 ^ (8 * (n + 1))) % 256 :: bl y (n + 1) from rfl, ih, e]
    rfl
theorem bo_go : ∀ (n k : Nat) (y : Int) (L : List Int), n < k → n ≤ 100 → L.length + n ≤ 100 → 0 ≤ y → y ≤ 4611686018427387904 → spec_bytesOf.l0 k y (List.replicate n 0 ++ L) ((n : Int) - 1) = some (bl y n ++ L) := by
  intro n
  induction n with
  | zero =>
    intro k y L hk hn hL hy hy2
    obtain ⟨k, rfl⟩ : ∃ m, k = m + 1 := ⟨k - 1, by omega⟩
    simp only [spec_bytesOf.l0]; rw [if_neg (by omega)]; rfl
  | succ n ih =>
    intro k y L hk hn hL hy hy2
    obtain ⟨k, rfl⟩ : ∃ m, k = m + 1 := ⟨k - 1, by omega⟩
    have hs : (List.replicate (n + 1) 0 ++ L).set n (y % 256) = List.replicate n 0 ++ (y % 256 :: L) := by
      rw [List.replicate_succ', List.append_assoc, List.set_append_right _ _ (by simp), List.length_replicate, Nat.sub_self]; rfl
    rw [show ((n + 1 : Nat) : Int) - 1 = (n : Int) by omega]
    simp only [spec_bytesOf.l0]
    rw [if_pos (by omega), if_pos (by omega), if_pos (by simp; omega), Int.toNat_natCast, Int.tmod_eq_emod_of_nonneg hy, Int.tdiv_eq_ediv_of_nonneg hy, Int.emod_emod, hs,
      show wrap64 (y / 256) = y / 256 by unfold wrap64; omega, show wrap64 ((n : Int) - 1) = (n : Int) - 1 by unfold wrap64; omega,
      ih k (y / 256) _ (by omega) (by omega) (by simp; omega) (by omega) (by omega), bl_snoc, List.append_assoc]
    rfl
theorem bo_ok (y : Int) (hy : 0 ≤ y) (hy2 : y ≤ 4611686018427387904) (n : Nat) (hn : n ≤ 8) (k : Nat) (hk : 9 ≤ k) : spec_bytesOf.f k y (n : Int) = some (bl y n) := by
  unfold spec_bytesOf.f
  rw [if_pos (by omega), if_pos (by omega), Int.toNat_natCast, show wrap64 ((n : Int) - 1) = (n : Int) - 1 by unfold wrap64; omega]
  have := bo_go n k y [] (by omega) (by omega) (by simp; omega) hy hy2
  rw [List.append_nil, List.append_nil] at this
  exact this
theorem fmt_s (k : Nat) (hk : 20 ≤ k) (l m st po sp o r s : Int) : spec_FormatPacket.f k l m st po sp o r s = some (if VP l m st po sp o r s then FB l m st po sp o r s else []) := by
  unfold spec_FormatPacket.f
  simp only [svp, Option.bind_some, decide_eq_true_eq]
  by_cases v : VP l m st po sp o r s
  · rw [if_pos v, if_pos v]
    obtain ⟨v1, v2, v3, v4, v5, v6, v7, v8⟩ := v
    have e1 : (wrap64 ((wrap64 ((wrap64 (64 * l)) + 32)) + m)) % 256 = 64 * l + 32 + m := by unfold wrap64; omega
    have e2 : st % 256 = st := by omega
    have e3 : po % 256 = po := by omega
    have b2 : spec_bytesOf.f k sp 2 = some (bl sp 2) := bo_ok sp (by omega) (by omega) 2 (by omega) k (by omega)
    have b3 : spec_bytesOf.f k o 6 = some (bl o 6) := bo_ok o (by omega) (by omega) 6 (by omega) k (by omega)
    have b4 : spec_bytesOf.f k r 6 = some (bl r 6) := bo_ok r (by omega) (by omega) 6 (by omega) k (by omega)
    have b5 : spec_bytesOf.f k s 6 = some (bl s 6) := bo_ok s (by omega) (by omega) 6 (by omega) k (by omega)
    rw [e1, e2, e3]
    simp only [b2, b3, b4, b5, Option.bind_some, bl_len, List.length_append, List.length_cons, List.length_nil]
    rw [if_pos (by omega), if_pos (by omega), if_pos (by omega), if_pos (by omega)]
    rfl
  · rw [if_neg v, if_neg v]

theorem rd_at {l : List Int} {i : Nat} (h : i < l.length) : rd l (i : Int) = l[i] := by
  unfold rd
  rw [List.getD_eq_getElem?_getD, Int.toNat_natCast, List.getElem?_eq_getElem h, Option.getD_some]
theorem w_succ {i n : Nat} (h : i < n) (hn : n ≤ 4611686018427387904) : wrap64 ((i : Int) + 1) = ((i + 1 : Nat) : Int) := by
  unfold wrap64; omega

theorem eqByteS_go (l : List Int) (hl : l.length ≤ 4000000) : ∀ (d k i : Nat), i + d = l.length → d < k → laws_eqByteS.l0 k l l (i : Int) = some true := by
  intro d
  induction d with
  | zero =>
    intro k i hi hk
    obtain ⟨k, rfl⟩ : ∃ m, k = m + 1 := ⟨k - 1, by omega⟩
    simp only [laws_eqByteS.l0]; rw [if_neg (by omega)]
  | succ d ih =>
    intro k i hi hk
    obtain ⟨k, rfl⟩ : ∃ m, k = m + 1 := ⟨k - 1, by omega⟩
    have hlt : i < l.length := by omega
    simp only [laws_eqByteS.l0, if_true]
    rw [if_pos (by omega), if_pos (by omega), if_pos (by omega), w_succ hlt (by omega), ih k (i + 1) (by omega) (by omega)]
theorem eqByteS_refl (l : List Int) (hl : l.length ≤ 4000000) (k : Nat) (hk : l.length < k) : laws_eqByteS.f k l l = some true := by
  unfold laws_eqByteS.f
  rw [if_pos rfl]
  exact eqByteS_go l hl l.length k 0 (by omega) hk

theorem rd_getD (l : List Int) (i : Nat) : rd l (i : Int) = l.getD i 0 := by unfold rd; rw [Int.toNat_natCast]
theorem mark_go : ∀ (d k i : Nat) (L : List Int), L.length ≤ 1000 → i + d = L.length → d < k → (∀ j, j < i → L.getD j 0 = ((j : Int) + 1) % 256) →
    ∃ M, laws_markByteS.l0 k L ((i : Int) + 1) (i : Int) = some ((L.length : Int) + 1, M) ∧ M.length = L.length ∧ ∀ j, j < M.length → M.getD j 0 = ((j : Int) + 1) % 256 := by
  intro d
  induction d with
  | zero =>
    intro k i L hL hi hk h
    obtain ⟨k, rfl⟩ : ∃ m, k = m + 1 := ⟨k - 1, by omega⟩
    refine ⟨L, ?_, rfl, fun j hj => h j (by omega)⟩
    simp only [laws_markByteS.l0]; rw [if_neg (by omega), show (i : Int) = (L.length : Int) by omega]
  | succ d ih =>
    intro k i L hL hi hk h
    obtain ⟨k, rfl⟩ : ∃ m, k = m + 1 := ⟨k - 1, by omega⟩
    have hlt : i < L.length := by omega
    obtain ⟨M, h1, h2, h3⟩ := ih k (i + 1) (L.set i (((i : Int) + 1) % 256)) (by simp; omega) (by simp; omega) (by omega) (fun j hj => by
      by_cases e : j = i
      · subst e; rw [List.getD_eq_getElem?_getD, List.getElem?_set_self (by omega)]; rfl
      · rw [List.getD_eq_getElem?_getD, List.getElem?_set_ne (by omega), ← List.getD_eq_getElem?_getD]; exact h j (by omega))
    refine ⟨M, ?_, by simpa using h2, h3⟩
    simp only [laws_markByteS.l0]
    rw [if_pos (by omega), if_pos (by omega), Int.toNat_natCast, show wrap64 ((i : Int) + 1 + 1) = ((i + 1 : Nat) : Int) + 1 by unfold wrap64; omega, w_succ hlt (by omega), h1, List.length_set]
theorem held_go (M : List Int) (hM : M.length ≤ 1000) (h : ∀ j, j < M.length → M.getD j 0 = ((j : Int) + 1) % 256) : ∀ (d k i : Nat), i + d = M.length → d < k →
    laws_heldByteS.l0 k M ((i : Int) + 1) (i : Int) = some ((M.length : Int) + 1) := by
  intro d
  induction d with
  | zero =>
    intro k i hi hk
    obtain ⟨k, rfl⟩ : ∃ m, k = m + 1 := ⟨k - 1, by omega⟩
    simp only [laws_heldByteS.l0]; rw [if_neg (by omega), show (i : Int) = (M.length : Int) by omega]
  | succ d ih =>
    intro k i hi hk
    obtain ⟨k, rfl⟩ : ∃ m, k = m + 1 := ⟨k - 1, by omega⟩
    have hlt : i < M.length := by omega
    simp only [laws_heldByteS.l0, rd_getD]
    rw [if_pos (by omega), if_pos (by omega), if_pos (h i hlt), show wrap64 ((i : Int) + 1 + 1) = ((i + 1 : Nat) : Int) + 1 by unfold wrap64; omega, w_succ hlt (by omega), ih k (i + 1) (by omega) (by omega)]
theorem markheld (L : List Int) (hL : L.length ≤ 100) (k : Nat) (hk : 200 ≤ k) : ∃ M, laws_markByteS.f k L 1 = some ((L.length : Int) + 1, M) ∧ ∀ k', 200 ≤ k' → laws_heldByteS.f k' M 1 = some ((L.length : Int) + 1) := by
  obtain ⟨M, h1, h2, h3⟩ := mark_go L.length k 0 L (by omega) (by omega) (by omega) (fun j hj => by omega)
  refine ⟨M, h1, fun k' hk' => ?_⟩
  have := held_go M (by omega) h3 M.length k' 0 (by omega) (by omega)
  rw [h2] at this
  exact this

theorem FnExactFormatPacket (l m st po sp o r s : Int) (_ : (Lit.int .i64 l).wf = true) (_ : (Lit.int .i64 m).wf = true) (_ : (Lit.int .i64 st).wf = true) (_ : (Lit.int .i64 po).wf = true) (_ : (Lit.int .i64 sp).wf = true) (_ : (Lit.int .i64 o).wf = true) (_ : (Lit.int .i64 r).wf = true) (_ : (Lit.int .i64 s).wf = true) : ∃ k, laws_FnExactFormatPacket.f k l m st po sp o r s = some true := by
  refine ⟨300, ?_⟩
  simp only [laws_FnExactFormatPacket.f, laws_toPacket.f, fmt_s 300 (by omega), fmt_i 300 (by omega), Option.bind_some]
  have hl : (if VP l m st po sp o r s then FB l m st po sp o r s else []).length ≤ 23 := by
    by_cases v : VP l m st po sp o r s
    · rw [if_pos v, FB_len]; omega
    · rw [if_neg v]; simp
  generalize (if VP l m st po sp o r s then FB l m st po sp o r s else []) = L at *
  obtain ⟨M, h1, h2⟩ := markheld L (by omega) 300 (by omega)
  rw [eqByteS_refl L (by omega) 300 (by omega)]
  simp only [Option.bind_some, if_true, h1, h2 300 (by omega)]
  rw [if_neg (by omega), if_neg (by omega)]

end Go.Proofs.Ytilnodnkknamhaa.Pure
