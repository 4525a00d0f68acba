/- Commands: a command that came in. -/
import Derived.Test.YtbhfbdldehahoaaCmdJ
import Derived.Lib.SmallJoins
namespace Go.Proofs.Ytbhfbdldehahoaa
open Go.Joins Go.ChangeShapes Go.WideShapes Go.RowKit Go.Deep
set_option linter.unusedVariables false
set_option linter.unusedSimpArgs false
namespace Cm
def fits (n : Int) : Prop := -9223372036854775808 ≤ n ∧ n ≤ 9223372036854775807
theorem open_cd {H : Type} {enc : TypeId × Value → H} {P : Program} {w : World} {base : Nat} {spare : Nat → Bool} {held : Bool} {r : Reach} {b0 : Nat} {t : TypeId} {f0 f1 f2 f3 f4 f5 f6 : Field} {v : Value} {d : DataW H} {p : List MemPlace}
    (hs : P.underlying t = some (.struct #[f0, f1, f2, f3, f4, f5, f6])) (hone : oneCellFields P #[f0, f1, f2, f3, f4, f5, f6] = true) (hC : P.cellsOf t = 7)
    (i0 : P.underlying f0.type = some (.int .i64)) (i1 : P.underlying f1.type = some (.int .i64)) (i2 : P.underlying f2.type = some (.int .i64)) (i3 : P.underlying f3.type = some (.int .i64)) (i4 : P.underlying f4.type = some (.int .i64)) (i5 : P.underlying f5.type = some (.int .i64)) (i6 : P.underlying f6.type = some (.int .i64))
    (hv : Value.okWide P w r b0 t v) (h : DataW.Trod enc P w base spare held t v d p) :
    ∃ c : Cd, v = c.v ∧ fits c.op ∧ fits c.addr ∧ fits c.words ∧ fits c.cand ∧ fits c.many ∧ fits c.bits ∧ fits c.at_ := by
  obtain ⟨cs, rfl, hsz⟩ := okWide_struct hs hv
  obtain ⟨l⟩ := cs
  match l, hsz.trans hC with
  | [c0, c1, c2, c3, c4, c5, c6], _ =>
    obtain ⟨fuel, hf⟩ := h
    obtain ⟨xs, n, _, hx, _, hlen, hg⟩ := DataW.trod_struct hs hf
    obtain ⟨o0, k0⟩ := hone_of hone 0 f0 rfl
    obtain ⟨o1, k1⟩ := hone_of hone 1 f1 rfl
    obtain ⟨o2, k2⟩ := hone_of hone 2 f2 rfl
    obtain ⟨o3, k3⟩ := hone_of hone 3 f3 rfl
    obtain ⟨o4, k4⟩ := hone_of hone 4 f4 rfl
    obtain ⟨o5, k5⟩ := hone_of hone 5 f5 rfl
    obtain ⟨o6, k6⟩ := hone_of hone 6 f6 rfl
    match xs, hlen with
    | [y0, y1, y2, y3, y4, y5, y6], _ =>
      obtain ⟨n0, e0, _, w0⟩ := DataW.trod_int (x := y0) i0 (by simpa [Value.cells, o0, k0] using hg 0 f0 rfl)
      simp at e0
      subst e0
      obtain ⟨n1, e1, _, w1⟩ := DataW.trod_int (x := y1) i1 (by simpa [Value.cells, o1, k1] using hg 1 f1 rfl)
      simp at e1
      subst e1
      obtain ⟨n2, e2, _, w2⟩ := DataW.trod_int (x := y2) i2 (by simpa [Value.cells, o2, k2] using hg 2 f2 rfl)
      simp at e2
      subst e2
      obtain ⟨n3, e3, _, w3⟩ := DataW.trod_int (x := y3) i3 (by simpa [Value.cells, o3, k3] using hg 3 f3 rfl)
      simp at e3
      subst e3
      obtain ⟨n4, e4, _, w4⟩ := DataW.trod_int (x := y4) i4 (by simpa [Value.cells, o4, k4] using hg 4 f4 rfl)
      simp at e4
      subst e4
      obtain ⟨n5, e5, _, w5⟩ := DataW.trod_int (x := y5) i5 (by simpa [Value.cells, o5, k5] using hg 5 f5 rfl)
      simp at e5
      subst e5
      obtain ⟨n6, e6, _, w6⟩ := DataW.trod_int (x := y6) i6 (by simpa [Value.cells, o6, k6] using hg 6 f6 rfl)
      simp at e6
      subst e6
      exact ⟨⟨n0, n1, n2, n3, n4, n5, n6⟩, rfl, wf_i64 w0, wf_i64 w1, wf_i64 w2, wf_i64 w3, wf_i64 w4, wf_i64 w5, wf_i64 w6⟩
end Cm
end Go.Proofs.Ytbhfbdldehahoaa
