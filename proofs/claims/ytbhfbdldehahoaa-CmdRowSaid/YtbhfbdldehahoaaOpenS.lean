/- Slices of structs of whole numbers that came in. -/
import Derived.Test.YtbhfbdldehahoaaOpen
import Derived.Deep.Slices
import Derived.Deep.Fields
import Derived.ChangeSame
namespace Go.Proofs.Ytbhfbdldehahoaa
open Go.ChangeShapes Go.WideShapes Go.ChangeAt Go.RowKit Go.Deep
set_option linter.unusedVariables false
/-- The cells of a slice of structs of c cells each, below block B. -/
def RdS (w : World) (B : Nat) (A : Option Addr) (n c : Nat) (f : Nat → Nat → Value) : Prop :=
  0 < n → ∃ b off, A = some ⟨b, off, none⟩ ∧ b < B ∧ ∀ i, i < n → ∀ j, j < c → w.cell? ⟨b, off + i * c + j, none⟩ = some (f i j)

theorem open_rdS {H : Type} {enc : TypeId × Value → H} {P : Program} {W : World} {base : Nat} {t e : TypeId} {fs : Array Field} {v : Value} {d : DataW H} {p : List MemPlace}
    (ht : P.underlying t = some (.slice e)) (he : P.underlying e = some (.struct fs)) (hone : oneCellFields P fs = true) (hC : P.cellsOf e = fs.size) (hpos : 0 < fs.size)
    (hint : ∀ (j : Nat) (f : Field), fs[j]? = some f → P.underlying f.type = some (.int .i64))
    (o : Value.okWide P W .any base t v) (h : DataW.Trod enc P W 0 (fun _ => true) true t v d p) :
    ∃ A len cap, ∃ z : Nat → Nat → Int, v = .slice A len cap ∧ len ≤ cap ∧ cap ≤ maxLen ∧ RdS W W.heap.size A len fs.size (fun i j => .int .i64 (z i j)) := by
  obtain ⟨A, len, cap, rfl⟩ := okWide_slice ht o
  obtain ⟨fuel, hf⟩ := h
  rcases open_slice ht hf with ⟨hcs, _⟩ | ⟨x, l, c, m, n, D, Pl, hcs, _, hl, hm, hmm, _, hi⟩
  · simp [Value.cells] at hcs
    obtain ⟨rfl, rfl, rfl⟩ := hcs
    exact ⟨none, 0, 0, fun _ _ => 0, rfl, Nat.le_refl _, by unfold maxLen; omega, fun hn => absurd hn (by omega)⟩
  · simp [Value.cells] at hcs
    obtain ⟨rfl, rfl, rfl⟩ := hcs
    have hmc : m = cap := by simpa using hmm
    subst hmc
    have key : ∀ i, i < len → ∀ j, j < fs.size → ∃ q : Int, W.cell? (x.add (i * fs.size + j)) = some (.int .i64 q) := by
      intro i hil j hj
      obtain ⟨cs', hc, ht'⟩ := hi i (by omega)
      rw [hC] at hc
      obtain ⟨ys, n', hn', hy, hlen, hyl, hfd⟩ := DataW.trod_struct he ht'
      obtain ⟨_, hcl, hat⟩ := World.cells?_some hc
      have hfj : fs[j]? = some fs[j] := Array.getElem?_eq_getElem hj
      obtain ⟨ho, hk⟩ := hone_of hone j _ hfj
      have hcell := hat j hj
      have hv : cs'[j]? = some (cs'[j]'(by omega)) := List.getElem?_eq_getElem (by omega)
      have h1 := hfd j _ hfj
      rw [ho, hk] at h1
      have hone' : (cs'.drop j).take 1 = [cs'[j]'(by omega)] := by
        rw [List.drop_eq_getElem_cons (by omega)]
        rfl
      rw [hone'] at h1
      have hys : ys[j]? = some (ys[j]'(by omega)) := List.getElem?_eq_getElem (by omega)
      rw [hys] at h1
      obtain ⟨q, e0, _, _⟩ := DataW.trod_int (hint j _ hfj) h1
      refine ⟨q, ?_⟩
      rw [← Go.Deep.add_add, hcell, hv]
      simp at e0
      rw [e0]
    have key2 : ∀ ij : Nat × Nat, ∃ q : Int, ij.1 < len → ij.2 < fs.size → W.cell? (x.add (ij.1 * fs.size + ij.2)) = some (.int .i64 q) := by
      intro ij
      by_cases h1 : ij.1 < len
      · by_cases h2 : ij.2 < fs.size
        · obtain ⟨q, hq⟩ := key ij.1 h1 ij.2 h2
          exact ⟨q, fun _ _ => hq⟩
        · exact ⟨0, fun _ h => absurd h h2⟩
      · exact ⟨0, fun h => absurd h h1⟩
    obtain ⟨z, hz⟩ := Classical.axiomOfChoice key2
    refine ⟨_, len, _, fun i j => z (i, j), rfl, hl, hm, fun hn => ?_⟩
    have hq0 := hz (0, 0) hn hpos
    obtain ⟨b, off, spot⟩ := x
    have hs : spot = none := by
      have := World.cell?_spot hq0
      simpa [Addr.add] using this
    subst hs
    have ea : ∀ i, (⟨b, off, none⟩ : Addr).add i = ⟨b, off + i, none⟩ := by
      intro i
      unfold Addr.add
      split
      · rename_i h0
        subst h0
        rfl
      · rfl
    refine ⟨b, off, rfl, by have := World.block_lt_of_cell? W _ hq0; simpa [Addr.add] using this, fun i hil j hj => ?_⟩
    have hk := hz (i, j) hil hj
    rw [ea] at hk
    rw [Nat.add_assoc]
    exact hk
end Go.Proofs.Ytbhfbdldehahoaa
