/- Images: an image that came in. -/
import Derived.Test.YtifnmnchpgbimaaImgO
import Derived.Deep.Strs
namespace Go.Proofs.Ytifnmnchpgbimaa
open Go.Joins Go.ChangeShapes Go.WideShapes Go.RowKit Go.Deep
set_option linter.unusedVariables false
set_option linter.unusedSimpArgs false
namespace Im
open Cm
theorem open_cells {H : Type} {enc : TypeId × Value → H} {P : Program} {W : World} {t e : TypeId} {fuel : Nat} {cs : List Value} {x : DataW H × List MemPlace}
    (ht : P.underlying t = some (.slice e)) (he : P.underlying e = some (.int .u8)) (hc : P.cellsOf e = 1) (h : DataW.trod enc P W 0 (fun _ => true) true fuel t cs = some x) :
    ∃ A len cap, ∃ l : List Int, cs = [.slice A len cap] ∧ Sl W 0 A len cap l ∧ (A = none → cap = 0) ∧ ∀ x ∈ l, 0 ≤ x ∧ x ≤ 255 := by
  rcases open_ints ht he hc h with ⟨hcs, _⟩ | ⟨x, len, cap, zs, hcs, _, hl, hm, hz, _, hcell, hwz⟩
  · exact ⟨none, 0, 0, [], hcs, ⟨rfl, Nat.le_refl _, by omega, fun hn => absurd hn (by omega)⟩, fun _ => rfl, by simp⟩
  · have hz' : zs.length = cap := by simpa using hz
    refine ⟨some x, len, cap, zs.take len, hcs, ⟨by simp; omega, hl, by unfold maxLen at hm; omega, fun hn => ?_⟩, fun h => (by cases h), fun y hy => wf_u8 (hwz y (List.mem_of_mem_take hy))⟩
    have h0 := hcell 0 (by omega)
    obtain ⟨b, off, spot⟩ := x
    have hs : spot = none := by
      have := World.cell?_spot h0
      simpa [Addr.add] using this
    subst hs
    refine ⟨b, off, rfl, Nat.zero_le _, by have := World.block_lt_of_cell? W _ h0; simpa [Addr.add] using this, fun i hi => ?_⟩
    have hi' := hcell i (by omega)
    have ea : (⟨b, off, none⟩ : Addr).add i = ⟨b, off + i, none⟩ := by
      unfold Addr.add
      split
      · rename_i h0; simp_all
      · rfl
    rw [ea] at hi'
    rw [hi', List.getD_eq_getElem?_getD, List.getD_eq_getElem?_getD, List.getElem?_take, if_pos hi]
theorem open_img {H : Type} {enc : TypeId × Value → H} {W : World} {base : Nat} {v : Value} {d : DataW H} {p : List MemPlace}
    (o : Value.okWide Try.prog W .any base 25 v) (h : DataW.Trod enc Try.prog W 0 (fun _ => true) true 25 v d p) :
    ∃ (m : Mg) (A : Option Addr) (n c : Nat) (l : List Int), v = m.v (.slice A n c) ∧ Sl W 0 A n c l ∧ (A = none → c = 0) ∧ (∀ x ∈ l, 0 ≤ x ∧ x ≤ 255) := by
  obtain ⟨cs, rfl, hsz⟩ := okWide_struct Try.underlying25 o
  obtain ⟨l⟩ := cs
  have hC : Try.prog.cellsOf 25 = 4 := by kernel_rfl
  have hI : Try.prog.cellsOf 3 = 1 := by kernel_rfl
  have hE : Try.prog.cellsOf 22 = 2 := by kernel_rfl
  have hS : Try.prog.cellsOf 23 = 1 := by kernel_rfl
  match l, hsz.trans hC with
  | [c0, c1, c2, c3], _ =>
    obtain ⟨fuel, hf⟩ := h
    obtain ⟨y0, y1, y2, n, _, _, h0, h1, h2⟩ := trod_struct3 Try.underlying25 hf
    simp [hI, hE, hS, Value.cells] at h0 h1 h2
    obtain ⟨z0, e0, _, w0⟩ := DataW.trod_int Try.underlying3 h0
    simp at e0
    subst e0
    obtain ⟨ys, n', _, _, _, hlen, hy⟩ := DataW.trod_array Try.underlying22 h1
    have a0 := hy 0 (by omega)
    have a1 := hy 1 (by omega)
    simp [hI] at a0 a1
    match ys, hlen with
    | [u0, u1], _ =>
      obtain ⟨z1, e1, _, w1⟩ := DataW.trod_int (x := u0) Try.underlying3 (by simpa using a0)
      simp at e1
      subst e1
      obtain ⟨z2, e2, _, w2⟩ := DataW.trod_int (x := u1) Try.underlying3 (by simpa using a1)
      simp at e2
      subst e2
      obtain ⟨A', len', cap', l, he, hs, hA, hb⟩ := open_cells Try.underlying23 Try.underlying5 (by kernel_rfl) h2
      simp at he
      exact ⟨⟨z0, z1, z2⟩, A', len', cap', l, by rw [he], hs, hA, hb⟩
end Im
end Go.Proofs.Ytifnmnchpgbimaa
