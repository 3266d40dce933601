/- For every list of bytes: ParsePacket takes the packet that is drawn from it out of the bytes that FormatPacket gives for it, as the law says. -/
import Derived.Test.YtjjdlocdcigfbaaQFnPacketRoundTripx0
import Derived.Test.YtjjdlocdcigfbaaQFnPacketRoundTripx1
import Derived.Test.YtjjdlocdcigfbaaQFnPacketRoundTripx2
import Derived.Test.YtjjdlocdcigfbaaQFnPacketRoundTripx3
import Derived.Lib.Bytes
import Derived.Test.YtjjdlocdcigfbaaWSized
namespace Go.Proofs.Ytjjdlocdcigfbaa.Pure
open Go.RowKit Go.Proofs.Ytjjdlocdcigfbaa.QFnPacketRoundTrip Go.Proofs.YtjjdlocdcigfbaaW.PrintWords Go.Proofs.YtjjdlocdcigfbaaW.PrintLast Go.Proofs.YtjjdlocdcigfbaaW.PrintMore
set_option linter.unusedVariables false
set_option linter.unusedSimpArgs false
theorem inR (a b c : Int) : spec_inRange.f a b c = some (decide (b ≤ a ∧ a ≤ c)) := by
  unfold spec_inRange.f; by_cases h : b ≤ a <;> simp [h]
theorem wiT (a b c : Int) : impl_within.f a b c = some (decide (b ≤ a ∧ a ≤ c)) := by
  unfold impl_within.f; by_cases h : b ≤ a <;> simp [h]

/-- A valid packet, in numbers. -/
def VP (l m st po sp o r s : Int) : Prop := (0 ≤ l ∧ l ≤ 3) ∧ (0 ≤ m ∧ m ≤ 7) ∧ (0 ≤ st ∧ st ≤ 15) ∧ (0 ≤ po ∧ po ≤ 17) ∧ (0 ≤ sp ∧ sp ≤ 65535) ∧ (0 ≤ o ∧ o ≤ 200000000999999) ∧ (0 ≤ r ∧ r ≤ 200000000999999) ∧ (0 ≤ s ∧ s ≤ 200000000999999)
instance (l m st po sp o r s : Int) : Decidable (VP l m st po sp o r s) := by unfold VP; infer_instance
theorem and_step (p q : Prop) [Decidable p] [Decidable q] (x : Option Bool) (hx : x = some (decide q)) : (if p then x else some false) = some (decide (p ∧ q)) := by
  by_cases h : p <;> simp [h, hx]
theorem ivp (l m st po sp o r s : Int) : impl_ValidPacket.f l m st po sp o r s = some (decide (VP l m st po sp o r s)) := by
  unfold impl_ValidPacket.f impl_isStamp.f VP
  simp only [wiT, Option.bind_some, decide_eq_true_eq]
  repeat (apply and_step)
  rfl

/-- The last bytes of a number, the highest one first. -/
def bl (x : Int) : Nat → List Int
  | 0 => []
  | n + 1 => (x / 2 ^ (8 * n)) % 256 :: bl x n
theorem bl_len (x : Int) (n : Nat) : (bl x n).length = n := by
  induction n with
  | zero => rfl
  | succ n ih => simp [bl, ih]
theorem bl_bd (x : Int) (n : Nat) : ∀ y ∈ bl x n, 0 ≤ y ∧ y ≤ 255 := by
  induction n with
  | zero => intro y hy; simp [bl] at hy
  | succ n ih =>
    intro y hy
    rcases List.mem_cons.mp hy with rfl | hy
    · omega
    · exact ih y hy
/-- The bytes of a packet. -/
def FB (l m st po sp o r s : Int) : List Int := [64 * l + 32 + m, st, po] ++ bl sp 2 ++ bl o 6 ++ bl r 6 ++ bl s 6
theorem FB_len (l m st po sp o r s : Int) : (FB l m st po sp o r s).length = 23 := by
  unfold FB; simp [bl_len]
theorem sh_ok (x : Int) (j : Nat) (h : j ≤ 7) : IntKind.u64.wrap (wrap64 (8 * (j : Int))) = ((8 * j : Nat) : Int) ∧ shr .i64 x ((8 * j : Nat) : Int) = x / 2 ^ (8 * j) := by
  refine ⟨?_, ?_⟩
  · have e : wrap64 (8 * (j : Int)) = ((8 * j : Nat) : Int) := by unfold wrap64; omega
    rw [e]; simp [IntKind.wrap, IntKind.bits, IntKind.signed]; omega
  · unfold shr
    rw [Int.toNat_natCast, Nat.min_eq_left (by simp [IntKind.bits]; omega)]
theorem pb_go (x : Int) : ∀ (n k : Nat) (acc : List Int), n < k → acc.length + n ≤ 100 → n ≤ 8 → impl_putBytes.l0 k acc x ((n : Int) - 1) = some (acc ++ bl x n) := by
  intro n
  induction n with
  | zero =>
    intro k acc hk ha hn
    obtain ⟨k, rfl⟩ : ∃ m, k = m + 1 := ⟨k - 1, by omega⟩
    simp only [impl_putBytes.l0, bl]; rw [if_neg (by omega), List.append_nil]
  | succ n ih =>
    intro k acc hk ha hn
    obtain ⟨k, rfl⟩ : ∃ m, k = m + 1 := ⟨k - 1, by omega⟩
    obtain ⟨s1, s2⟩ := sh_ok x n (by omega)
    rw [show ((n + 1 : Nat) : Int) - 1 = (n : Int) by omega]
    simp only [impl_putBytes.l0, s1, s2]
    rw [if_pos (by omega), if_pos (by omega), if_pos (by omega), show wrap64 ((n : Int) - 1) = (n : Int) - 1 by unfold wrap64; omega,
      ih k _ (by omega) (by simp; omega) (by omega), List.append_assoc]
    rfl
theorem pb_ok (x : Int) (n : Nat) (hn : 1 ≤ n ∧ n ≤ 8) (k : Nat) (hk : 9 ≤ k) (acc : List Int) (ha : acc.length ≤ 90) : impl_putBytes.f k acc x (n : Int) = some (acc ++ bl x n) := by
  unfold impl_putBytes.f
  rw [show wrap64 ((n : Int) - 1) = (n : Int) - 1 by unfold wrap64; omega]
  exact pb_go x n k acc (by omega) (by omega) (by omega)
theorem fmt_i (k : Nat) (hk : 20 ≤ k) (l m st po sp o r s : Int) : impl_FormatPacket.f k l m st po sp o r s = some (if VP l m st po sp o r s then FB l m st po sp o r s else []) := by
  obtain ⟨k, rfl⟩ : ∃ j, k = j + 4 := ⟨k - 4, by omega⟩
  unfold impl_FormatPacket.f
  simp only [ivp, Option.bind_some, decide_eq_true_eq]
  by_cases v : VP l m st po sp o r s
  · rw [if_pos v, if_pos v]
    obtain ⟨v1, v2, v3, v4, v5, v6, v7, v8⟩ := v
    have e1 : (wrap64 ((wrap64 ((wrap64 (64 * l)) + 32)) + m)) % 256 = 64 * l + 32 + m := by unfold wrap64; omega
    have e2 : st % 256 = st := by omega
    have e3 : po % 256 = po := by omega
    have p2 := pb_ok sp 2 (by omega) (k + 4) (by omega) [64 * l + 32 + m, st, po] (by simp)
    rw [e1, e2, e3, show (2 : Int) = ((2 : Nat) : Int) from rfl, p2, Option.bind_some]
    have a0 : wrap64 ((0 : Int) + 1) = 1 := by unfold wrap64; omega
    have a1 : wrap64 ((1 : Int) + 1) = 2 := by unfold wrap64; omega
    have a2 : wrap64 ((2 : Int) + 1) = 3 := by unfold wrap64; omega
    have r0 : rd [o, r, s] 0 = o := rfl
    have r1 : rd [o, r, s] 1 = r := rfl
    have r2 : rd [o, r, s] 2 = s := rfl
    have ln : (([o, r, s] : List Int).length : Int) = 3 := rfl
    have q0 : impl_FormatPacket.l0 (k + 4) ([64 * l + 32 + m, st, po] ++ bl sp 2) [o, r, s] 3 0 = impl_FormatPacket.l0 (k + 3) ([64 * l + 32 + m, st, po] ++ bl sp 2 ++ bl o 6) [o, r, s] 3 1 := by
      simp only [impl_FormatPacket.l0, a0, r0, ln]
      have p6 := pb_ok o 6 (by omega) (k + 3) (by omega) ([64 * l + 32 + m, st, po] ++ bl sp 2) (by simp [bl_len])
      rw [if_pos (by omega), if_pos (by omega), if_pos (by omega), show (6 : Int) = ((6 : Nat) : Int) from rfl, p6, Option.bind_some]
    have q1 : impl_FormatPacket.l0 (k + 3) ([64 * l + 32 + m, st, po] ++ bl sp 2 ++ bl o 6) [o, r, s] 3 1 = impl_FormatPacket.l0 (k + 2) ([64 * l + 32 + m, st, po] ++ bl sp 2 ++ bl o 6 ++ bl r 6) [o, r, s] 3 2 := by
      simp only [impl_FormatPacket.l0, a1, r1, ln]
      have p6 := pb_ok r 6 (by omega) (k + 2) (by omega) ([64 * l + 32 + m, st, po] ++ bl sp 2 ++ bl o 6) (by simp [bl_len])
      rw [if_pos (by omega), if_pos (by omega), if_pos (by omega), show (6 : Int) = ((6 : Nat) : Int) from rfl, p6, Option.bind_some]
    have q2 : impl_FormatPacket.l0 (k + 2) ([64 * l + 32 + m, st, po] ++ bl sp 2 ++ bl o 6 ++ bl r 6) [o, r, s] 3 2 = impl_FormatPacket.l0 (k + 1) ([64 * l + 32 + m, st, po] ++ bl sp 2 ++ bl o 6 ++ bl r 6 ++ bl s 6) [o, r, s] 3 3 := by
      simp only [impl_FormatPacket.l0, a2, r2, ln]
      have p6 := pb_ok s 6 (by omega) (k + 1) (by omega) ([64 * l + 32 + m, st, po] ++ bl sp 2 ++ bl o 6 ++ bl r 6) (by simp [bl_len])
      rw [if_pos (by omega), if_pos (by omega), if_pos (by omega), show (6 : Int) = ((6 : Nat) : Int) from rfl, p6, Option.bind_some]
    have q3 : impl_FormatPacket.l0 (k + 1) ([64 * l + 32 + m, st, po] ++ bl sp 2 ++ bl o 6 ++ bl r 6 ++ bl s 6) [o, r, s] 3 3 = some (FB l m st po sp o r s) := by
      simp only [impl_FormatPacket.l0]
      rw [if_neg (by omega)]; rfl
    simp only [ln]
    rw [q0, q1, q2, q3]
  · rw [if_neg v, if_neg v]

theorem rd_at {l : List Int} {i : Nat} (h : i < l.length) : rd l (i : Int) = l[i] := by
  unfold rd
  rw [List.getD_eq_getElem?_getD, Int.toNat_natCast, List.getElem?_eq_getElem h, Option.getD_some]
theorem w_succ {i n : Nat} (h : i < n) (hn : n ≤ 4611686018427387904) : wrap64 ((i : Int) + 1) = ((i + 1 : Nat) : Int) := by
  unfold wrap64; omega

/-- The number whose bytes these are, after those of a. -/
def numa (a : Int) : List Int → Int
  | [] => a
  | x :: L => numa (256 * a + x) L
def Byt (L : List Int) : Prop := ∀ x ∈ L, 0 ≤ x ∧ x ≤ 255
theorem Byt.tail {x : Int} {L : List Int} (h : Byt (x :: L)) : Byt L := fun y hy => h y (List.mem_cons_of_mem _ hy)
theorem Byt.head {x : Int} {L : List Int} (h : Byt (x :: L)) : 0 ≤ x ∧ x ≤ 255 := h x (by simp)
theorem numa_div (L : List Int) : ∀ a, 0 ≤ a → Byt L → numa a L / 2 ^ (8 * L.length) = a := by
  induction L with
  | nil => intro a _ _; simp [numa]
  | cons x L ih =>
    intro a ha h
    have hx := h.head
    have := ih (256 * a + x) (by omega) h.tail
    rw [show numa a (x :: L) = numa (256 * a + x) L from rfl, List.length_cons, show 8 * (L.length + 1) = 8 * L.length + 8 by omega, Int.pow_add, ← Int.ediv_ediv_of_nonneg (Int.pow_nonneg (by decide)), this]
    show (256 * a + x) / 256 = a
    omega
theorem bl_num (L : List Int) : ∀ a, 0 ≤ a → Byt L → bl (numa a L) L.length = L := by
  induction L with
  | nil => intro a _ _; rfl
  | cons x L ih =>
    intro a ha h
    have hx := h.head
    rw [show numa a (x :: L) = numa (256 * a + x) L from rfl, List.length_cons]
    show (numa (256 * a + x) L / 2 ^ (8 * L.length)) % 256 :: bl (numa (256 * a + x) L) L.length = x :: L
    rw [ih _ (by omega) h.tail, numa_div L _ (by omega) h.tail, show (256 * a + x) % 256 = x by omega]
/-- 256 to the power. -/
def bnd : Nat → Int
  | 0 => 1
  | n + 1 => 256 * bnd n
theorem bnd_le (i : Nat) (h : i ≤ 6) : bnd i ≤ 281474976710656 := by
  have : i = 0 ∨ i = 1 ∨ i = 2 ∨ i = 3 ∨ i = 4 ∨ i = 5 ∨ i = 6 := by omega
  rcases this with rfl | rfl | rfl | rfl | rfl | rfl | rfl <;> decide
theorem num_step {L : List Int} (hb : Byt L) (hl : L.length ≤ 6) {i : Nat} (hi : i < L.length) {a : Int} (ha : 0 ≤ a ∧ a < bnd i) :
    wrap64 ((wrap64 (256 * a)) + (wrap64 (rd L (i : Int)))) = 256 * a + L[i] ∧ 0 ≤ 256 * a + L[i] ∧ 256 * a + L[i] < bnd (i + 1) ∧ numa a (L.drop i) = numa (256 * a + L[i]) (L.drop (i + 1)) := by
  have hx := hb L[i] (List.getElem_mem hi)
  have h1 := bnd_le i (by omega)
  have h2 : bnd (i + 1) = 256 * bnd i := rfl
  rw [rd_at hi]
  refine ⟨by unfold wrap64; omega, by omega, by omega, ?_⟩
  rw [List.drop_eq_getElem_cons hi]; rfl
theorem gb_go (L : List Int) (hb : Byt L) (hl : L.length ≤ 6) : ∀ (d k i : Nat) (a : Int), i + d = L.length → d < k → 0 ≤ a ∧ a < bnd i → impl_getBytes.l0 k a L (L.length : Int) (i : Int) = some (numa a (L.drop i)) := by
  intro d
  induction d with
  | zero =>
    intro k i a hi hk ha
    obtain ⟨k, rfl⟩ : ∃ m, k = m + 1 := ⟨k - 1, by omega⟩
    simp only [impl_getBytes.l0]
    rw [if_neg (by omega), List.drop_of_length_le (by omega)]; rfl
  | succ d ih =>
    intro k i a hi hk ha
    obtain ⟨k, rfl⟩ : ∃ m, k = m + 1 := ⟨k - 1, by omega⟩
    obtain ⟨e1, e2, e3, e4⟩ := num_step hb hl (show i < L.length by omega) ha
    simp only [impl_getBytes.l0]
    rw [if_pos (by omega), if_pos (by omega), if_pos (by omega), e1, e4, show wrap64 ((i : Int) + 1) = ((i + 1 : Nat) : Int) by unfold wrap64; omega]
    exact ih k (i + 1) _ (by omega) (by omega) ⟨e2, e3⟩
theorem gb_ok (L : List Int) (hb : Byt L) (hl : L.length ≤ 6) (k : Nat) (hk : 7 ≤ k) : impl_getBytes.f k L = some (numa 0 L) := by
  unfold impl_getBytes.f
  exact gb_go L hb hl L.length k 0 0 (by omega) (by omega) ⟨by omega, by decide⟩
/-- What a packet of 23 bytes holds. -/
def PN (l : List Int) : Int × Int × Int × Int × Int × Int × Int × Int :=
  (rd l 0 / 64, rd l 0 % 8, rd l 1, rd l 2, numa 0 ((l.take 5).drop 3), numa 0 ((l.take 11).drop 5), numa 0 ((l.take 17).drop 11), numa 0 (l.drop 17))
def PNok (l : List Int) : Prop := rd l 0 / 8 % 8 = 4 ∧ VP (PN l).1 (PN l).2.1 (PN l).2.2.1 (PN l).2.2.2.1 (PN l).2.2.2.2.1 (PN l).2.2.2.2.2.1 (PN l).2.2.2.2.2.2.1 (PN l).2.2.2.2.2.2.2
instance (l : List Int) : Decidable (PNok l) := by unfold PNok; infer_instance
/-- What ParsePacket returns. -/
def PPf (l : List Int) : Int × Int × Int × Int × Int × Int × Int × Int × Bool :=
  if l.length = 23 ∧ PNok l then ((PN l).1, (PN l).2.1, (PN l).2.2.1, (PN l).2.2.2.1, (PN l).2.2.2.2.1, (PN l).2.2.2.2.2.1, (PN l).2.2.2.2.2.2.1, (PN l).2.2.2.2.2.2.2, true) else (0, 0, 0, 0, 0, 0, 0, 0, false)
theorem len23 {l : List Int} (h : l.length = 23) : l = [rd l 0, rd l 1, rd l 2] ++ (l.take 5).drop 3 ++ (l.take 11).drop 5 ++ (l.take 17).drop 11 ++ l.drop 17 := by
  match l, h with
  | [a0, a1, a2, a3, a4, a5, a6, a7, a8, a9, a10, a11, a12, a13, a14, a15, a16, a17, a18, a19, a20, a21, a22], _ => rfl
theorem PN_FB {l : List Int} (hb : Byt l) (h : l.length = 23) : FB (PN l).1 (PN l).2.1 (PN l).2.2.1 (PN l).2.2.2.1 (PN l).2.2.2.2.1 (PN l).2.2.2.2.2.1 (PN l).2.2.2.2.2.2.1 (PN l).2.2.2.2.2.2.2 = l ↔ rd l 0 / 8 % 8 = 4 := by
  have hs : ∀ a b, Byt ((l.take a).drop b) := fun a b x hx => hb x (List.mem_of_mem_take (List.mem_of_mem_drop hx))
  have hd : Byt (l.drop 17) := fun x hx => hb x (List.mem_of_mem_drop hx)
  have b1 := bl_num ((l.take 5).drop 3) 0 (by omega) (hs 5 3)
  have b2 := bl_num ((l.take 11).drop 5) 0 (by omega) (hs 11 5)
  have b3 := bl_num ((l.take 17).drop 11) 0 (by omega) (hs 17 11)
  have b4 := bl_num (l.drop 17) 0 (by omega) hd
  rw [show ((l.take 5).drop 3).length = 2 by simp; omega] at b1
  rw [show ((l.take 11).drop 5).length = 6 by simp; omega] at b2
  rw [show ((l.take 17).drop 11).length = 6 by simp; omega] at b3
  rw [show (l.drop 17).length = 6 by simp; omega] at b4
  have hb0 : 0 ≤ rd l 0 ∧ rd l 0 ≤ 255 := by
    have e := rd_at (l := l) (i := 0) (by omega)
    rw [show ((0 : Nat) : Int) = 0 from rfl] at e
    rw [e]; exact hb _ (List.getElem_mem _)
  have e := len23 h
  unfold FB PN
  simp only [b1, b2, b3, b4]
  constructor
  · intro q
    have h1 : 64 * (rd l 0 / 64) + 32 + rd l 0 % 8 = rd l 0 := congrArg (fun z : List Int => z.getD 0 0) (q.trans e)
    omega
  · intro q
    rw [show 64 * (rd l 0 / 64) + 32 + rd l 0 % 8 = rd l 0 by omega]
    exact e.symm

theorem byt_inj : ∀ a b : List Int, Byt a → Byt b → Go.Lib.bytesOf a = Go.Lib.bytesOf b → a = b := by
  intro a
  induction a with
  | nil =>
    intro b _ _ h
    cases b with
    | nil => rfl
    | cons y b => simp [Go.Lib.bytesOf] at h
  | cons x a ih =>
    intro b ha hb h
    cases b with
    | nil => simp [Go.Lib.bytesOf] at h
    | cons y b =>
      have hx := ha.head
      have hy := hb.head
      obtain ⟨h1, h2⟩ := List.cons.inj (show UInt8.ofNat x.toNat :: Go.Lib.bytesOf a = UInt8.ofNat y.toNat :: Go.Lib.bytesOf b from h)
      have h3 := congrArg UInt8.toNat h1
      rw [UInt8.toNat_ofNat', UInt8.toNat_ofNat'] at h3
      rw [ih b ha.tail hb.tail h2, show x = y by omega]
theorem be_ok (a b : List Int) (ha : Byt a) (hb : Byt b) : bytes_Equal.f a b = some (decide (a = b)) := by
  unfold bytes_Equal.f
  rw [Go.Lib.strOfNums_toList, Go.Lib.strOfNums_toList]
  by_cases h : a = b
  · rw [h]; simp
  · rw [decide_eq_false h]
    congr 1
    exact beq_eq_false_iff_ne.mpr (fun q => h (byt_inj a b ha hb q))
theorem FB_byt {l m st po sp o r s : Int} (v : VP l m st po sp o r s) : Byt (FB l m st po sp o r s) := by
  obtain ⟨v1, v2, v3, v4, v5, v6, v7, v8⟩ := v
  intro x hx
  unfold FB at hx
  simp only [List.mem_append, List.mem_cons, List.not_mem_nil, or_false] at hx
  rcases hx with (((hx | hx) | hx) | hx) | hx
  · rcases hx with rfl | rfl | rfl <;> omega
  · exact bl_bd _ _ x hx
  · exact bl_bd _ _ x hx
  · exact bl_bd _ _ x hx
  · exact bl_bd _ _ x hx
theorem pp_i (k : Nat) (hk : 30 ≤ k) (l : List Int) (hb : Byt l) : impl_ParsePacket.f k l = some (PPf l) := by
  unfold impl_ParsePacket.f PPf
  by_cases h : l.length = 23
  · have hs : ∀ a b, Byt ((l.take a).drop b) := fun a b x hx => hb x (List.mem_of_mem_take (List.mem_of_mem_drop hx))
    have hd : Byt (l.drop 17) := fun x hx => hb x (List.mem_of_mem_drop hx)
    have g : ∀ i : Nat, i < 23 → 0 ≤ rd l (i : Int) ∧ rd l (i : Int) ≤ 255 := by
      intro i hi
      rw [rd_at (show i < l.length by omega)]; exact hb _ (List.getElem_mem _)
    have g0 : 0 ≤ rd l 0 ∧ rd l 0 ≤ 255 := g 0 (by omega)
    have g1 : 0 ≤ rd l 1 ∧ rd l 1 ≤ 255 := g 1 (by omega)
    have g2 : 0 ≤ rd l 2 ∧ rd l 2 ≤ 255 := g 2 (by omega)
    have e0 : Int.tdiv (rd l 0) 64 % 256 = rd l 0 / 64 := by
      rw [Int.tdiv_eq_ediv_of_nonneg g0.1]; have : rd l 0 ≤ 255 := g0.2; have : 0 ≤ rd l 0 := g0.1; omega
    have e1 : wrap64 (Int.tmod (rd l 0) 8) = rd l 0 % 8 := by
      rw [Int.tmod_eq_emod_of_nonneg g0.1]; unfold wrap64; omega
    have e2 : wrap64 (rd l 1) = rd l 1 := by have : rd l 1 ≤ 255 := g1.2; have : 0 ≤ rd l 1 := g1.1; unfold wrap64; omega
    have e3 : wrap64 (rd l 2) = rd l 2 := by have : rd l 2 ≤ 255 := g2.2; have : 0 ≤ rd l 2 := g2.1; unfold wrap64; omega
    rw [if_pos (by omega), if_pos (by omega), if_pos (by omega), if_pos (by omega), if_pos (by omega), if_pos (by omega), gb_ok _ (hs 5 3) (by simp; omega) k (by omega), Option.bind_some,
      if_pos (by omega), if_pos (by omega), gb_ok _ (hs 11 5) (by simp; omega) k (by omega), Option.bind_some,
      if_pos (by omega), if_pos (by omega), gb_ok _ (hs 17 11) (by simp; omega) k (by omega), Option.bind_some, gb_ok _ hd (by simp; omega) k (by omega), Option.bind_some, e0, e1, e2, e3,
      fmt_i k (by omega), Option.bind_some]
    have hF := PN_FB hb h
    show ((bytes_Equal.f (if VP (PN l).1 (PN l).2.1 (PN l).2.2.1 (PN l).2.2.2.1 (PN l).2.2.2.2.1 (PN l).2.2.2.2.2.1 (PN l).2.2.2.2.2.2.1 (PN l).2.2.2.2.2.2.2 then FB (PN l).1 (PN l).2.1 (PN l).2.2.1 (PN l).2.2.2.1 (PN l).2.2.2.2.1 (PN l).2.2.2.2.2.1 (PN l).2.2.2.2.2.2.1 (PN l).2.2.2.2.2.2.2 else []) l).bind fun t => if t = true then some ((PN l).1, (PN l).2.1, (PN l).2.2.1, (PN l).2.2.2.1, (PN l).2.2.2.2.1, (PN l).2.2.2.2.2.1, (PN l).2.2.2.2.2.2.1, (PN l).2.2.2.2.2.2.2, true) else some (0, 0, 0, 0, 0, 0, 0, 0, false)) = _
    by_cases v : VP (PN l).1 (PN l).2.1 (PN l).2.2.1 (PN l).2.2.2.1 (PN l).2.2.2.2.1 (PN l).2.2.2.2.2.1 (PN l).2.2.2.2.2.2.1 (PN l).2.2.2.2.2.2.2
    · rw [if_pos v, be_ok _ _ (FB_byt v) hb, Option.bind_some]
      by_cases q : rd l 0 / 8 % 8 = 4
      · rw [decide_eq_true (hF.mpr q), if_pos rfl, if_pos ⟨h, q, v⟩]
      · rw [decide_eq_false (fun z => q (hF.mp z)), if_neg (by decide), if_neg (fun z => q z.2.1)]
    · rw [if_neg v, be_ok [] l (fun x hx => absurd hx (by simp)) hb, Option.bind_some, decide_eq_false (fun z => by rw [← z] at h; simp at h), if_neg (by decide), if_neg (fun z => v z.2.2)]
  · rw [if_neg (by omega), if_neg (fun z => h z.1)]

theorem svp (l m st po sp o r s : Int) : spec_validPacket.f l m st po sp o r s = some (decide (VP l m st po sp o r s)) := by
  unfold spec_validPacket.f spec_validStamp.f VP
  simp only [inR, Option.bind_some, decide_eq_true_eq]
  repeat (apply and_step)
  rfl

theorem bl_snoc (y : Int) (n : Nat) : bl y (n + 1) = bl (y / 256) n ++ [y % 256] := by
  induction n with
  | zero => simp [bl]
  | succ n ih =>
    have e : y / 2 ^ (8 * (n + 1)) = y / 256 / 2 ^ (8 * n) := by
      rw [Int.ediv_ediv_of_nonneg (by decide), show (2 : Int) ^ (8 * (n + 1)) = 256 * 2 ^ (8 * n) by rw [show 8 * (n + 1) = 8 + 8 * n by omega, Int.pow_add]; rfl]
    rw [show bl y (n + 1 + 1) = (y / 2 ^ (8 * (n + 1))) % 256 :: bl y (n + 1) from rfl, ih, e]
    rfl
theorem bo_go : ∀ (n k : Nat) (y : Int) (L : List Int), n < k → n ≤ 100 → L.length + n ≤ 100 → 0 ≤ y → y ≤ 4611686018427387904 → spec_bytesOf.l0 k y (List.replicate n 0 ++ L) ((n : Int) - 1) = some (bl y n ++ L) := by
  intro n
  induction n with
  | zero =>
    intro k y L hk hn hL hy hy2
    obtain ⟨k, rfl⟩ : ∃ m, k = m + 1 := ⟨k - 1, by omega⟩
    simp only [spec_bytesOf.l0]; rw [if_neg (by omega)]; rfl
  | succ n ih =>
    intro k y L hk hn hL hy hy2
    obtain ⟨k, rfl⟩ : ∃ m, k = m + 1 := ⟨k - 1, by omega⟩
    have hs : (List.replicate (n + 1) 0 ++ L).set n (y % 256) = List.replicate n 0 ++ (y % 256 :: L) := by
      rw [List.replicate_succ', List.append_assoc, List.set_append_right _ _ (by simp), List.length_replicate, Nat.sub_self]; rfl
    rw [show ((n + 1 : Nat) : Int) - 1 = (n : Int) by omega]
    simp only [spec_bytesOf.l0]
    rw [if_pos (by omega), if_pos (by omega), if_pos (by simp; omega), Int.toNat_natCast, Int.tmod_eq_emod_of_nonneg hy, Int.tdiv_eq_ediv_of_nonneg hy, Int.emod_emod, hs,
      show wrap64 (y / 256) = y / 256 by unfold wrap64; omega, show wrap64 ((n : Int) - 1) = (n : Int) - 1 by unfold wrap64; omega,
      ih k (y / 256) _ (by omega) (by omega) (by simp; omega) (by omega) (by omega), bl_snoc, List.append_assoc]
    rfl
theorem bo_ok (y : Int) (hy : 0 ≤ y) (hy2 : y ≤ 4611686018427387904) (n : Nat) (hn : n ≤ 8) (k : Nat) (hk : 9 ≤ k) : spec_bytesOf.f k y (n : Int) = some (bl y n) := by
  unfold spec_bytesOf.f
  rw [if_pos (by omega), if_pos (by omega), Int.toNat_natCast, show wrap64 ((n : Int) - 1) = (n : Int) - 1 by unfold wrap64; omega]
  have := bo_go n k y [] (by omega) (by omega) (by simp; omega) hy hy2
  rw [List.append_nil, List.append_nil] at this
  exact this
theorem fmt_s (k : Nat) (hk : 20 ≤ k) (l m st po sp o r s : Int) : spec_FormatPacket.f k l m st po sp o r s = some (if VP l m st po sp o r s then FB l m st po sp o r s else []) := by
  unfold spec_FormatPacket.f
  simp only [svp, Option.bind_some, decide_eq_true_eq]
  by_cases v : VP l m st po sp o r s
  · rw [if_pos v, if_pos v]
    obtain ⟨v1, v2, v3, v4, v5, v6, v7, v8⟩ := v
    have e1 : (wrap64 ((wrap64 ((wrap64 (64 * l)) + 32)) + m)) % 256 = 64 * l + 32 + m := by unfold wrap64; omega
    have e2 : st % 256 = st := by omega
    have e3 : po % 256 = po := by omega
    have b2 : spec_bytesOf.f k sp 2 = some (bl sp 2) := bo_ok sp (by omega) (by omega) 2 (by omega) k (by omega)
    have b3 : spec_bytesOf.f k o 6 = some (bl o 6) := bo_ok o (by omega) (by omega) 6 (by omega) k (by omega)
    have b4 : spec_bytesOf.f k r 6 = some (bl r 6) := bo_ok r (by omega) (by omega) 6 (by omega) k (by omega)
    have b5 : spec_bytesOf.f k s 6 = some (bl s 6) := bo_ok s (by omega) (by omega) 6 (by omega) k (by omega)
    rw [e1, e2, e3]
    simp only [b2, b3, b4, b5, Option.bind_some, bl_len, List.length_append, List.length_cons, List.length_nil]
    rw [if_pos (by omega), if_pos (by omega), if_pos (by omega), if_pos (by omega)]
    rfl
  · rw [if_neg v, if_neg v]

theorem xor_nn (a b : Nat) (ha : a < 4611686018427387904) (hb : b < 4611686018427387904) :
    Go.bits .xor .i64 (a : Int) (b : Int) = ((a ^^^ b : Nat) : Int) := by
  have hx : a ^^^ b < 2 ^ 62 := Nat.xor_lt_two_pow (by omega) (by omega)
  have h1 : (BitVec.ofInt 64 (a : Int)).toNat = a := by
    rw [BitVec.ofInt_natCast, BitVec.toNat_ofNat]; exact Nat.mod_eq_of_lt (by omega)
  have h2 : (BitVec.ofInt 64 (b : Int)).toNat = b := by
    rw [BitVec.ofInt_natCast, BitVec.toNat_ofNat]; exact Nat.mod_eq_of_lt (by omega)
  show IntKind.i64.wrap ((BitVec.ofInt 64 (a : Int) ^^^ BitVec.ofInt 64 (b : Int)).toNat : Int) = _
  rw [BitVec.toNat_xor, h1, h2]
  simp [IntKind.wrap, IntKind.bits, IntKind.signed]
  omega
theorem xor_nonneg (a b : Int) (ha : 0 ≤ a) (ha2 : a < 4611686018427387904) (hb : 0 ≤ b) (hb2 : b < 4611686018427387904) :
    0 ≤ Go.bits .xor .i64 a b := by
  obtain ⟨m, rfl⟩ := Int.eq_ofNat_of_zero_le ha
  obtain ⟨n, rfl⟩ := Int.eq_ofNat_of_zero_le hb
  have := xor_nn m n (by omega) (by omega)
  try simp only [Int.ofNat_eq_natCast] at this ⊢
  rw [this]; omega
/-- What a reader's bytes are. -/
def Byts (b : List Int) : Prop := b.length ≤ 2000 ∧ ∀ x ∈ b, 0 ≤ x ∧ x ≤ 255
theorem Byts.get {b : List Int} (h : Byts b) (i : Int) : 0 ≤ rd b i ∧ rd b i ≤ 255 := by
  unfold rd
  rw [List.getD_eq_getElem?_getD]
  by_cases hi : i.toNat < b.length
  · rw [List.getElem?_eq_getElem hi]; exact h.2 _ (List.getElem_mem hi)
  · rw [List.getElem?_eq_none (by omega)]; simp
theorem pick_ok (k : Nat) (hk : 1 ≤ k) {b : List Int} (hb : Byts b) {p : Int} (hp : 0 ≤ p) (hp2 : p ≤ 1000000) (n : Int) :
    ∃ v, spec_reader_pick.f k b p n = some (v, p + 1) ∧ 0 ≤ v ∧ (1 ≤ n → v < n) ∧ (n < 1 → v = 0) := by
  obtain ⟨k, rfl⟩ : ∃ m, k = m + 1 := ⟨k - 1, by omega⟩
  have hl := hb.1
  have w1 : wrap64 (p + 1) = p + 1 := by unfold wrap64; omega
  have w2 : wrap64 (p + 1 - 1) = p := by unfold wrap64; omega
  unfold spec_reader_pick.f
  rw [w1]
  by_cases hn : n < 1
  · rw [if_pos hn]
    exact ⟨0, by simp [spec_reader_pick.j0], by omega, by omega, fun _ => rfl⟩
  · rw [if_neg hn]
    by_cases he : (b.length : Int) = 0
    · refine ⟨0, ?_, by omega, by omega, fun _ => rfl⟩
      rw [show ((b.length : Int) == 0) = true by simpa using he]
      simp [spec_reader_pick.j0]
    · rw [show ((b.length : Int) == 0) = false by simpa using he]
      simp only [spec_reader_pick.j0, w2, if_neg (show ¬ (false = true) by decide), if_pos hp, if_neg (show ¬ n = 0 by omega)]
      by_cases hlt : p < (b.length : Int)
      · obtain ⟨r0, r1⟩ := hb.get p
        have w3 : wrap64 (rd b p) = rd b p := by unfold wrap64; omega
        rw [if_pos hlt, w3, Int.tmod_eq_emod_of_nonneg r0]
        exact ⟨_, rfl, Int.emod_nonneg _ (by omega), fun _ => Int.emod_lt_of_pos _ (by omega), fun _ => by omega⟩
      · have e1 := Int.tmod_eq_emod_of_nonneg (b := (b.length : Int)) hp
        have e2 : wrap64 (wrap64 (p * 7) + 3) = p * 7 + 3 := by unfold wrap64; omega
        have e3 := Int.tmod_eq_emod_of_nonneg (b := (b.length : Int)) (a := p * 7 + 3) (by omega)
        have e4 := Int.tdiv_eq_ediv_of_nonneg (b := (b.length : Int)) hp
        have n1 := Int.emod_nonneg p he
        have n2 := Int.emod_lt_of_pos p (show 0 < (b.length : Int) by omega)
        have n3 := Int.emod_nonneg (p * 7 + 3) he
        have n4 := Int.emod_lt_of_pos (p * 7 + 3) (show 0 < (b.length : Int) by omega)
        have n5 : 0 ≤ p / (b.length : Int) := Int.ediv_nonneg hp (by omega)
        have n6 : p / (b.length : Int) ≤ p := Int.ediv_le_self _ hp
        rw [if_neg hlt, if_neg he, e2, e1, e3, e4, if_pos n1, if_pos n2, if_pos n3, if_pos n4]
        obtain ⟨r0, r1⟩ := hb.get (p % (b.length : Int))
        obtain ⟨q0, q1⟩ := hb.get ((p * 7 + 3) % (b.length : Int))
        generalize rd b (p % (b.length : Int)) = x at *
        generalize rd b ((p * 7 + 3) % (b.length : Int)) = y at *
        generalize p / (b.length : Int) = z at *
        have w3 : wrap64 (wrap64 (wrap64 (wrap64 (wrap64 x * 131) + wrap64 (wrap64 y * 1117)) + wrap64 (p * 29)) + wrap64 (wrap64 z * 53)) = x * 131 + y * 1117 + p * 29 + z * 53 := by unfold wrap64; omega
        rw [w3]
        have w4 : wrap64 (Int.tdiv (x * 131 + y * 1117 + p * 29 + z * 53) 64) = (x * 131 + y * 1117 + p * 29 + z * 53) / 64 := by
          rw [Int.tdiv_eq_ediv_of_nonneg (by omega)]; unfold wrap64; omega
        rw [w4]
        have hx := xor_nonneg (x * 131 + y * 1117 + p * 29 + z * 53) ((x * 131 + y * 1117 + p * 29 + z * 53) / 64) (by omega) (by omega) (by omega) (by omega)
        rw [Int.tmod_eq_emod_of_nonneg hx]
        exact ⟨_, rfl, Int.emod_nonneg _ (by omega), fun _ => Int.emod_lt_of_pos _ (by omega), fun _ => by omega⟩

theorem reader_ok (l : List Int) (h : ∀ x ∈ l, (Lit.int .u8 x).wf = true) : ∃ b, spec_newReader.f l = some (b, 0) ∧ Byts b := by
  have h' : ∀ x ∈ l, 0 ≤ x ∧ x ≤ 255 := fun x hx => by
    have := h x hx
    simp [Lit.wf, IntKind.min, IntKind.max, IntKind.bits, IntKind.signed] at this
    omega
  unfold spec_newReader.f
  by_cases c : (l.length : Int) > 2000
  · rw [if_pos c, if_pos (by omega)]
    exact ⟨_, rfl, by simp; omega, fun x hx => h' x (List.mem_of_mem_take hx)⟩
  · rw [if_neg c]
    exact ⟨_, rfl, by omega, h'⟩

theorem one_ok (k : Nat) (hk : 1 ≤ k) {b : List Int} (hb : Byts b) {p : Int} (hp : 0 ≤ p) (hp2 : p ≤ 1000000) (l : List Int) (hl : l ≠ []) :
    ∃ v, spec_reader_one.f k b p l = some (v, p + 1) ∧ v ∈ l := by
  have hlen : 1 ≤ l.length := List.length_pos_iff.mpr hl
  obtain ⟨i, hi, h0, h1, h2⟩ := pick_ok k hk hb hp hp2 (l.length : Int)
  have h1 := h1 (by omega)
  unfold spec_reader_one.f
  rw [hi]
  simp only [Option.bind_some]
  rw [if_pos h0, if_pos h1]
  refine ⟨_, rfl, ?_⟩
  unfold rd
  rw [List.getD_eq_getElem?_getD, List.getElem?_eq_getElem (by omega)]
  exact List.getElem_mem _


theorem somestamp_ok (k : Nat) (hk : 1 ≤ k) {b : List Int} (hb : Byts b) {p : Int} (hp : 0 ≤ p) (hp2 : p ≤ 900000) :
    ∃ v, spec_someStamp.f k b p = some (v, p + 3) ∧ 0 ≤ v ∧ v ≤ 249000001743 * 1000 := by
  unfold spec_someStamp.f
  obtain ⟨v1, h1, m1⟩ := pick_ok k hk hb hp (by omega) 250
  rw [h1]; simp only [Option.bind_some]
  obtain ⟨v2, h2, m2⟩ := pick_ok k hk hb (p := p + 1) (by omega) (by omega) 250
  rw [h2]; simp only [Option.bind_some]
  have e1 : wrap64 (1000 * v1) = 1000 * v1 := by unfold wrap64; omega
  have e2 : wrap64 (1000000007 * v2) = 1000000007 * v2 := by unfold wrap64; omega
  rw [e1, e2]
  obtain ⟨v3, h3, m3⟩ := one_ok k hk hb (p := p + 1 + 1) (by omega) (by omega) ([0, 1, 999999, 1000000, 200000000999999, 123456789012, 1000 * v1, 1000000007 * v2]) (by simp)
  rw [h3]; simp only [Option.bind_some]
  refine ⟨v3, by rw [show p + 1 + 1 + 1 = p + 3 by omega], ?_⟩
  simp only [List.mem_cons, List.not_mem_nil, or_false] at m3
  omega

theorem anypacket_ok (k : Nat) (hk : 1 ≤ k) {b : List Int} (hb : Byts b) {p : Int} (hp : 0 ≤ p) (hp2 : p ≤ 800000) :
    ∃ l m st po sp o r s q, spec_anyPacket.f k b p = some (l, m, st, po, sp, o, r, s, q) ∧ p ≤ q ∧ q ≤ p + 16 := by
  unfold spec_anyPacket.f
  obtain ⟨v1, h1, m1⟩ := one_ok k hk hb hp (by omega) ([0, 0, 1, 3]) (by simp)
  rw [h1]; simp only [Option.bind_some]
  obtain ⟨v2, h2, m2⟩ := one_ok k hk hb (p := p + 1) (by omega) (by omega) ([3, 4, 3, 0, 7]) (by simp)
  rw [h2]; simp only [Option.bind_some]
  obtain ⟨v3, h3, m3⟩ := one_ok k hk hb (p := p + 1 + 1) (by omega) (by omega) ([1, 0, 1, 15]) (by simp)
  rw [h3]; simp only [Option.bind_some]
  obtain ⟨v4, h4, m4⟩ := one_ok k hk hb (p := p + 1 + 1 + 1) (by omega) (by omega) ([6, 0, 10, 17]) (by simp)
  rw [h4]; simp only [Option.bind_some]
  obtain ⟨v5, h5, m5⟩ := one_ok k hk hb (p := p + 1 + 1 + 1 + 1) (by omega) (by omega) ([0, 100, 65535, 256]) (by simp)
  rw [h5]; simp only [Option.bind_some]
  obtain ⟨v6, h6, m6⟩ := somestamp_ok k hk hb (p := p + 1 + 1 + 1 + 1 + 1) (by omega) (by omega)
  rw [h6]; simp only [Option.bind_some]
  obtain ⟨v7, h7, m7⟩ := somestamp_ok k hk hb (p := p + 1 + 1 + 1 + 1 + 1 + 3) (by omega) (by omega)
  rw [h7]; simp only [Option.bind_some]
  obtain ⟨v8, h8, m8⟩ := somestamp_ok k hk hb (p := p + 1 + 1 + 1 + 1 + 1 + 3 + 3) (by omega) (by omega)
  rw [h8]; simp only [Option.bind_some]
  obtain ⟨v9, h9, m9⟩ := pick_ok k hk hb (p := p + 1 + 1 + 1 + 1 + 1 + 3 + 3 + 3) (by omega) (by omega) 24
  rw [h9]; simp only [Option.bind_some]
  by_cases c0 : v9 = 0
  · rw [if_pos c0]
    obtain ⟨w, h, _⟩ := one_ok k hk hb (p := p + 1 + 1 + 1 + 1 + 1 + 3 + 3 + 3 + 1) (by omega) (by omega) ([(-1), 4]) (by simp)
    rw [h]; exact ⟨_, _, _, _, _, _, _, _, _, rfl, by omega, by omega⟩
  · rw [if_neg c0]
    by_cases c1 : v9 = 1
    · rw [if_pos c1]
      obtain ⟨w, h, _⟩ := one_ok k hk hb (p := p + 1 + 1 + 1 + 1 + 1 + 3 + 3 + 3 + 1) (by omega) (by omega) ([(-1), 16]) (by simp)
      rw [h]; exact ⟨_, _, _, _, _, _, _, _, _, rfl, by omega, by omega⟩
    · rw [if_neg c1]
      by_cases c2 : v9 = 2
      · rw [if_pos c2]
        obtain ⟨w, h, _⟩ := one_ok k hk hb (p := p + 1 + 1 + 1 + 1 + 1 + 3 + 3 + 3 + 1) (by omega) (by omega) ([(-1), 65536]) (by simp)
        rw [h]; exact ⟨_, _, _, _, _, _, _, _, _, rfl, by omega, by omega⟩
      · rw [if_neg c2]
        by_cases c3 : v9 = 3
        · rw [if_pos c3]
          obtain ⟨w, h, _⟩ := one_ok k hk hb (p := p + 1 + 1 + 1 + 1 + 1 + 3 + 3 + 3 + 1) (by omega) (by omega) ([(-1), 200000001000000]) (by simp)
          rw [h]; exact ⟨_, _, _, _, _, _, _, _, _, rfl, by omega, by omega⟩
        · rw [if_neg c3]
          by_cases c4 : v9 = 4
          · rw [if_pos c4]
            obtain ⟨w, h, _⟩ := one_ok k hk hb (p := p + 1 + 1 + 1 + 1 + 1 + 3 + 3 + 3 + 1) (by omega) (by omega) ([(-1), 18]) (by simp)
            rw [h]; exact ⟨_, _, _, _, _, _, _, _, _, rfl, by omega, by omega⟩
          · rw [if_neg c4]
            exact ⟨_, _, _, _, _, _, _, _, _, rfl, by omega, by omega⟩

theorem drawFormatPacket_ok (k : Nat) (hk : 1 ≤ k) (l0 : List Int) (hw : ∀ x ∈ l0, (Lit.int .u8 x).wf = true) : ∃ l m st po sp o r s, spec_DrawFormatPacket.f k l0 = some (l, m, st, po, sp, o, r, s) := by
  obtain ⟨b, hr, hb⟩ := reader_ok l0 hw
  obtain ⟨l, m, st, po, sp, o, r, s, q, hs, _, _⟩ := anypacket_ok k hk hb (p := 0) (by omega) (by omega)
  exact ⟨l, m, st, po, sp, o, r, s, by unfold spec_DrawFormatPacket.f; rw [hr]; simp only [Option.bind_some]; rw [hs]; rfl⟩

theorem equalBytes_go (l : List Int) (hl : l.length ≤ 4000000) : ∀ (d k i : Nat), i + d = l.length → d < k → laws_equalBytes.l0 k l l (i : Int) = some true := by
  intro d
  induction d with
  | zero =>
    intro k i hi hk
    obtain ⟨k, rfl⟩ : ∃ m, k = m + 1 := ⟨k - 1, by omega⟩
    simp only [laws_equalBytes.l0]; rw [if_neg (by omega)]
  | succ d ih =>
    intro k i hi hk
    obtain ⟨k, rfl⟩ : ∃ m, k = m + 1 := ⟨k - 1, by omega⟩
    have hlt : i < l.length := by omega
    simp only [laws_equalBytes.l0, if_true]
    rw [if_pos (by omega), if_pos (by omega), if_pos (by omega), w_succ hlt (by omega), ih k (i + 1) (by omega) (by omega)]
theorem equalBytes_refl (l : List Int) (hl : l.length ≤ 4000000) (k : Nat) (hk : l.length < k) : laws_equalBytes.f k l l = some true := by
  unfold laws_equalBytes.f
  rw [if_pos rfl]
  exact equalBytes_go l hl l.length k 0 (by omega) hk

theorem numa_snoc (x : Int) (L : List Int) : ∀ a, numa a (L ++ [x]) = 256 * numa a L + x := by
  induction L with
  | nil => intro a; rfl
  | cons y L ih => intro a; exact ih (256 * a + y)
theorem num_bl : ∀ (n : Nat) (y : Int), 0 ≤ y → y < bnd n → numa 0 (bl y n) = y := by
  intro n
  induction n with
  | zero =>
    intro y h0 h1
    have h2 : bnd 0 = 1 := rfl
    show (0 : Int) = y
    omega
  | succ n ih =>
    intro y h0 h1
    have h2 : bnd (n + 1) = 256 * bnd n := rfl
    rw [bl_snoc, numa_snoc, ih (y / 256) (by omega) (by omega)]; omega
theorem PN_of_FB {l m st po sp o r s : Int} (v : VP l m st po sp o r s) : PNok (FB l m st po sp o r s) ∧ PN (FB l m st po sp o r s) = (l, m, st, po, sp, o, r, s) := by
  have v' := v
  obtain ⟨v1, v2, v3, v4, v5, v6, v7, v8⟩ := v'
  have r0 : rd (FB l m st po sp o r s) 0 = 64 * l + 32 + m := rfl
  have r1 : rd (FB l m st po sp o r s) 1 = st := rfl
  have r2 : rd (FB l m st po sp o r s) 2 = po := rfl
  have t1 : ((FB l m st po sp o r s).take 5).drop 3 = bl sp 2 := rfl
  have t2 : ((FB l m st po sp o r s).take 11).drop 5 = bl o 6 := rfl
  have t3 : ((FB l m st po sp o r s).take 17).drop 11 = bl r 6 := rfl
  have t4 : (FB l m st po sp o r s).drop 17 = bl s 6 := rfl
  have b2 : bnd 2 = 65536 := by decide
  have b6 : bnd 6 = 281474976710656 := by decide
  have hP : PN (FB l m st po sp o r s) = (l, m, st, po, sp, o, r, s) := by
    unfold PN
    rw [r0, r1, r2, t1, t2, t3, t4, num_bl 2 sp (by omega) (by omega), num_bl 6 o (by omega) (by omega), num_bl 6 r (by omega) (by omega), num_bl 6 s (by omega) (by omega), show (64 * l + 32 + m) / 64 = l by omega, show (64 * l + 32 + m) % 8 = m by omega]
  refine ⟨?_, hP⟩
  unfold PNok
  rw [hP, r0]
  exact ⟨by omega, v⟩
theorem FnPacketRoundTrip : laws_FnPacketRoundTrip.Pure := by
  intro l0 _ _ hw
  refine ⟨200, ?_⟩
  unfold laws_FnPacketRoundTrip.f
  by_cases c : (l0.length : Int) > 1048576
  · rw [if_pos c]
  · rw [if_neg c]
    obtain ⟨l, m, st, po, sp, o, r, s, hd⟩ := drawFormatPacket_ok 200 (by omega) l0 hw
    rw [hd]
    simp only [Option.bind_some, fmt_i 200 (by omega), fmt_s 200 (by omega), fmt_s 199 (by omega), laws_FnPacketRoundTrip.j0]
    by_cases v : VP l m st po sp o r s
    · obtain ⟨hk, hp⟩ := PN_of_FB v
      have hl := FB_len l m st po sp o r s
      have e0 : ((((FB l m st po sp o r s).length : Int) == 0)) = false := by rw [hl]; rfl
      have ep : PPf (FB l m st po sp o r s) = (l, m, st, po, sp, o, r, s, true) := by
        unfold PPf; rw [if_pos ⟨hl, hk⟩, hp]
      simp only [if_pos v]
      rw [equalBytes_refl (FB l m st po sp o r s) (by omega) 200 (by omega)]
      simp only [Option.bind_some, if_true, e0, if_neg (show ¬ (false = true) by decide), pp_i 199 (by omega) _ (FB_byt v), ep, beq_self_eq_true, Bool.and_self]
    · simp only [if_neg v]
      rw [equalBytes_refl [] (by simp) 200 (by simp)]
      simp only [Option.bind_some, if_true, equalBytes_refl [] (by simp) 199 (by simp)]
      rfl

end Go.Proofs.Ytjjdlocdcigfbaa.Pure
namespace Go.Proofs.Ytjjdlocdcigfbaa.PrintWords
/-- Under this name the row asks for it. -/
theorem sized_ints {H : Type} {enc : TypeId × Value → H} {P : Program} {W : World} {base : Nat} {spare : Nat → Bool} {held : Bool} {t e : TypeId} {k : IntKind} {a : Option Addr} {len cap : Nat} {d : DataW H} {ps : List MemPlace} {ts : List TypeId} {ds : List (DataW H)} {j : Nat}
    (hsz : (DataW.weightsEach P ts ds).all (· ≤ reachBytes) = true) (ht : ts[j]? = some t) (hd : ds[j]? = some d) (hu : P.underlying t = some (.slice e)) (he : P.underlying e = some (.int k)) (hc : P.cellsOf e = 1) {B : Nat} (hB : P.bytesOf e = B)
    (h : DataW.Trod enc P W base spare held t (.slice a len cap) d ps) : len * B ≤ 140737488351232 :=
  Go.Proofs.YtjjdlocdcigfbaaW.PrintWords.sized_ints hsz ht hd hu he hc hB h
end Go.Proofs.Ytjjdlocdcigfbaa.PrintWords
