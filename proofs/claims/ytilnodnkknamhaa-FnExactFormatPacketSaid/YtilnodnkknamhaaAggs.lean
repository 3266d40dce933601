/- Structs of three and of eight fields of type int, by value: opened into their numbers, and read again in any world; no condition but the kit's own. -/
import Derived.Lib.SmallJoins
namespace Go.Proofs.Ytilnodnkknamhaa.Aggs
open Go.Joins Go.ChangeShapes Go.WideShapes Go.RowKit Go.Deep
set_option linter.unusedVariables false
set_option linter.unusedSimpArgs false
section
variable {H : Type} {enc : TypeId × Value → H} {P : Program} {w : World} {base : Nat} {spare : Nat → Bool} {held : Bool}
theorem open_ints3 {r : Reach} {b0 : Nat} {t : TypeId} {f0 f1 f2 : Field} {v : Value} {d : DataW H} {p : List MemPlace} (hs : P.underlying t = some (.struct #[f0, f1, f2])) (hone : oneCellFields P #[f0, f1, f2] = true) (hC : P.cellsOf t = 3)
    (i0 : P.underlying f0.type = some (.int .i64)) (i1 : P.underlying f1.type = some (.int .i64)) (i2 : P.underlying f2.type = some (.int .i64))
    (hv : Value.okWide P w r b0 t v) (h : DataW.Trod enc P w base spare held t v d p) :
    ∃ n0 n1 n2 : Int, v = .agg #[.int .i64 n0, .int .i64 n1, .int .i64 n2] ∧ d = .agg [.lit (.int .i64 n0), .lit (.int .i64 n1), .lit (.int .i64 n2)] ∧ p = [] ∧ (Lit.int .i64 n0).wf = true ∧ (Lit.int .i64 n1).wf = true ∧ (Lit.int .i64 n2).wf = true ∧
      ∀ (w' : World) (base' : Nat) (spare' : Nat → Bool) (held' : Bool), DataW.Trod enc P w' base' spare' held' t (.agg #[.int .i64 n0, .int .i64 n1, .int .i64 n2]) (.agg [.lit (.int .i64 n0), .lit (.int .i64 n1), .lit (.int .i64 n2)]) [] := by
  obtain ⟨cs, rfl, hsz⟩ := okWide_struct hs hv
  obtain ⟨l⟩ := cs
  match l, hsz.trans hC with
  | [c0, c1, c2], _ =>
    obtain ⟨fuel, hf⟩ := h
    obtain ⟨xs, n, _, hx, _, hlen, hg⟩ := DataW.trod_struct hs hf
    obtain ⟨o0, k0⟩ := hone_of hone 0 f0 rfl
    obtain ⟨o1, k1⟩ := hone_of hone 1 f1 rfl
    obtain ⟨o2, k2⟩ := hone_of hone 2 f2 rfl
    match xs, hlen with
    | [y0, y1, y2], _ =>
      simp only [Prod.mk.injEq] at hx
      have t0 : DataW.trod enc P w base spare held n f0.type [c0] = some y0 := by simpa [Value.cells, o0, k0] using hg 0 f0 rfl
      have t1 : DataW.trod enc P w base spare held n f1.type [c1] = some y1 := by simpa [Value.cells, o1, k1] using hg 1 f1 rfl
      have t2 : DataW.trod enc P w base spare held n f2.type [c2] = some y2 := by simpa [Value.cells, o2, k2] using hg 2 f2 rfl
      obtain ⟨n0, hc0, hy0, w0⟩ := DataW.trod_int i0 t0
      obtain rfl : c0 = .int .i64 n0 := by simpa using hc0
      subst hy0
      obtain ⟨n1, hc1, hy1, w1⟩ := DataW.trod_int i1 t1
      obtain rfl : c1 = .int .i64 n1 := by simpa using hc1
      subst hy1
      obtain ⟨n2, hc2, hy2, w2⟩ := DataW.trod_int i2 t2
      obtain rfl : c2 = .int .i64 n2 := by simpa using hc2
      subst hy2
      refine ⟨n0, n1, n2, rfl, by simpa using hx.1, by simpa using hx.2, w0, w1, w2, fun w' base' spare' held' => ?_⟩
      have ts := trod_struct_mk (enc := enc) (P := P) (w := w') (base := base') (spare := spare') (held := held') (n := 1) (t := t) (cs := [.int .i64 n0, .int .i64 n1, .int .i64 n2]) (xs := [(.lit (.int .i64 n0), []), (.lit (.int .i64 n1), []), (.lit (.int .i64 n2), [])]) hs (by simp [hC]) (by simp [o0, k0, trod_int_mk (enc := enc) (P := P) (w := w') (base := base') (spare := spare') (held := held') 0 i0 w0, o1, k1, trod_int_mk (enc := enc) (P := P) (w := w') (base := base') (spare := spare') (held := held') 0 i1 w1, o2, k2, trod_int_mk (enc := enc) (P := P) (w := w') (base := base') (spare := spare') (held := held') 0 i2 w2])
      exact ⟨_, by simpa [Value.cells] using ts⟩
theorem open_ints8 {r : Reach} {b0 : Nat} {t : TypeId} {f0 f1 f2 f3 f4 f5 f6 f7 : Field} {v : Value} {d : DataW H} {p : List MemPlace} (hs : P.underlying t = some (.struct #[f0, f1, f2, f3, f4, f5, f6, f7])) (hone : oneCellFields P #[f0, f1, f2, f3, f4, f5, f6, f7] = true) (hC : P.cellsOf t = 8)
    (i0 : P.underlying f0.type = some (.int .i64)) (i1 : P.underlying f1.type = some (.int .i64)) (i2 : P.underlying f2.type = some (.int .i64)) (i3 : P.underlying f3.type = some (.int .i64)) (i4 : P.underlying f4.type = some (.int .i64)) (i5 : P.underlying f5.type = some (.int .i64)) (i6 : P.underlying f6.type = some (.int .i64)) (i7 : P.underlying f7.type = some (.int .i64))
    (hv : Value.okWide P w r b0 t v) (h : DataW.Trod enc P w base spare held t v d p) :
    ∃ n0 n1 n2 n3 n4 n5 n6 n7 : Int, v = .agg #[.int .i64 n0, .int .i64 n1, .int .i64 n2, .int .i64 n3, .int .i64 n4, .int .i64 n5, .int .i64 n6, .int .i64 n7] ∧ d = .agg [.lit (.int .i64 n0), .lit (.int .i64 n1), .lit (.int .i64 n2), .lit (.int .i64 n3), .lit (.int .i64 n4), .lit (.int .i64 n5), .lit (.int .i64 n6), .lit (.int .i64 n7)] ∧ p = [] ∧ (Lit.int .i64 n0).wf = true ∧ (Lit.int .i64 n1).wf = true ∧ (Lit.int .i64 n2).wf = true ∧ (Lit.int .i64 n3).wf = true ∧ (Lit.int .i64 n4).wf = true ∧ (Lit.int .i64 n5).wf = true ∧ (Lit.int .i64 n6).wf = true ∧ (Lit.int .i64 n7).wf = true ∧
      ∀ (w' : World) (base' : Nat) (spare' : Nat → Bool) (held' : Bool), DataW.Trod enc P w' base' spare' held' t (.agg #[.int .i64 n0, .int .i64 n1, .int .i64 n2, .int .i64 n3, .int .i64 n4, .int .i64 n5, .int .i64 n6, .int .i64 n7]) (.agg [.lit (.int .i64 n0), .lit (.int .i64 n1), .lit (.int .i64 n2), .lit (.int .i64 n3), .lit (.int .i64 n4), .lit (.int .i64 n5), .lit (.int .i64 n6), .lit (.int .i64 n7)]) [] := by
  obtain ⟨cs, rfl, hsz⟩ := okWide_struct hs hv
  obtain ⟨l⟩ := cs
  match l, hsz.trans hC with
  | [c0, c1, c2, c3, c4, c5, c6, c7], _ =>
    obtain ⟨fuel, hf⟩ := h
    obtain ⟨xs, n, _, hx, _, hlen, hg⟩ := DataW.trod_struct hs hf
    obtain ⟨o0, k0⟩ := hone_of hone 0 f0 rfl
    obtain ⟨o1, k1⟩ := hone_of hone 1 f1 rfl
    obtain ⟨o2, k2⟩ := hone_of hone 2 f2 rfl
    obtain ⟨o3, k3⟩ := hone_of hone 3 f3 rfl
    obtain ⟨o4, k4⟩ := hone_of hone 4 f4 rfl
    obtain ⟨o5, k5⟩ := hone_of hone 5 f5 rfl
    obtain ⟨o6, k6⟩ := hone_of hone 6 f6 rfl
    obtain ⟨o7, k7⟩ := hone_of hone 7 f7 rfl
    match xs, hlen with
    | [y0, y1, y2, y3, y4, y5, y6, y7], _ =>
      simp only [Prod.mk.injEq] at hx
      have t0 : DataW.trod enc P w base spare held n f0.type [c0] = some y0 := by simpa [Value.cells, o0, k0] using hg 0 f0 rfl
      have t1 : DataW.trod enc P w base spare held n f1.type [c1] = some y1 := by simpa [Value.cells, o1, k1] using hg 1 f1 rfl
      have t2 : DataW.trod enc P w base spare held n f2.type [c2] = some y2 := by simpa [Value.cells, o2, k2] using hg 2 f2 rfl
      have t3 : DataW.trod enc P w base spare held n f3.type [c3] = some y3 := by simpa [Value.cells, o3, k3] using hg 3 f3 rfl
      have t4 : DataW.trod enc P w base spare held n f4.type [c4] = some y4 := by simpa [Value.cells, o4, k4] using hg 4 f4 rfl
      have t5 : DataW.trod enc P w base spare held n f5.type [c5] = some y5 := by simpa [Value.cells, o5, k5] using hg 5 f5 rfl
      have t6 : DataW.trod enc P w base spare held n f6.type [c6] = some y6 := by simpa [Value.cells, o6, k6] using hg 6 f6 rfl
      have t7 : DataW.trod enc P w base spare held n f7.type [c7] = some y7 := by simpa [Value.cells, o7, k7] using hg 7 f7 rfl
      obtain ⟨n0, hc0, hy0, w0⟩ := DataW.trod_int i0 t0
      obtain rfl : c0 = .int .i64 n0 := by simpa using hc0
      subst hy0
      obtain ⟨n1, hc1, hy1, w1⟩ := DataW.trod_int i1 t1
      obtain rfl : c1 = .int .i64 n1 := by simpa using hc1
      subst hy1
      obtain ⟨n2, hc2, hy2, w2⟩ := DataW.trod_int i2 t2
      obtain rfl : c2 = .int .i64 n2 := by simpa using hc2
      subst hy2
      obtain ⟨n3, hc3, hy3, w3⟩ := DataW.trod_int i3 t3
      obtain rfl : c3 = .int .i64 n3 := by simpa using hc3
      subst hy3
      obtain ⟨n4, hc4, hy4, w4⟩ := DataW.trod_int i4 t4
      obtain rfl : c4 = .int .i64 n4 := by simpa using hc4
      subst hy4
      obtain ⟨n5, hc5, hy5, w5⟩ := DataW.trod_int i5 t5
      obtain rfl : c5 = .int .i64 n5 := by simpa using hc5
      subst hy5
      obtain ⟨n6, hc6, hy6, w6⟩ := DataW.trod_int i6 t6
      obtain rfl : c6 = .int .i64 n6 := by simpa using hc6
      subst hy6
      obtain ⟨n7, hc7, hy7, w7⟩ := DataW.trod_int i7 t7
      obtain rfl : c7 = .int .i64 n7 := by simpa using hc7
      subst hy7
      refine ⟨n0, n1, n2, n3, n4, n5, n6, n7, rfl, by simpa using hx.1, by simpa using hx.2, w0, w1, w2, w3, w4, w5, w6, w7, fun w' base' spare' held' => ?_⟩
      have ts := trod_struct_mk (enc := enc) (P := P) (w := w') (base := base') (spare := spare') (held := held') (n := 1) (t := t) (cs := [.int .i64 n0, .int .i64 n1, .int .i64 n2, .int .i64 n3, .int .i64 n4, .int .i64 n5, .int .i64 n6, .int .i64 n7]) (xs := [(.lit (.int .i64 n0), []), (.lit (.int .i64 n1), []), (.lit (.int .i64 n2), []), (.lit (.int .i64 n3), []), (.lit (.int .i64 n4), []), (.lit (.int .i64 n5), []), (.lit (.int .i64 n6), []), (.lit (.int .i64 n7), [])]) hs (by simp [hC]) (by simp [o0, k0, trod_int_mk (enc := enc) (P := P) (w := w') (base := base') (spare := spare') (held := held') 0 i0 w0, o1, k1, trod_int_mk (enc := enc) (P := P) (w := w') (base := base') (spare := spare') (held := held') 0 i1 w1, o2, k2, trod_int_mk (enc := enc) (P := P) (w := w') (base := base') (spare := spare') (held := held') 0 i2 w2, o3, k3, trod_int_mk (enc := enc) (P := P) (w := w') (base := base') (spare := spare') (held := held') 0 i3 w3, o4, k4, trod_int_mk (enc := enc) (P := P) (w := w') (base := base') (spare := spare') (held := held') 0 i4 w4, o5, k5, trod_int_mk (enc := enc) (P := P) (w := w') (base := base') (spare := spare') (held := held') 0 i5 w5, o6, k6, trod_int_mk (enc := enc) (P := P) (w := w') (base := base') (spare := spare') (held := held') 0 i6 w6, o7, k7, trod_int_mk (enc := enc) (P := P) (w := w') (base := base') (spare := spare') (held := held') 0 i7 w7])
      exact ⟨_, by simpa [Value.cells] using ts⟩
end
end Go.Proofs.Ytilnodnkknamhaa.Aggs
