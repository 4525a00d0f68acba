/- A row of numbers that the call itself made, read as a list. -/
import Derived.Test.YtifnmnchpgbimaaOpen
import Derived.Test.YtifnmnchpgbimaaMore
import Derived.OwnWalk
namespace Go.Proofs.Ytifnmnchpgbimaa
open Go.RowKit
/-- Numbers as values. -/
def nums (k : IntKind) (l : List Int) : List Value := l.map fun x => .int k x
theorem nums_get (k : IntKind) (l : List Int) (i : Nat) (h : i < l.length) : (nums k l)[i]? = some (.int k (l.getD i 0)) := by
  simp [nums, List.getD_eq_getElem?_getD, h]
theorem nums_app (k : IntKind) (l m : List Int) : nums k (l ++ m) = nums k l ++ nums k m := by simp [nums]
theorem nums_len (k : IntKind) (l : List Int) : (nums k l).length = l.length := by simp [nums]
theorem own_len {w : World} {base : Nat} {e : TypeId} {k : IntKind} {v : Value} {n : Nat} {l : List Int} (h : w.ownsRow base e 1 v n (nums k l)) : l.length = n := by
  have := h.1
  rw [nums_len] at this
  omega
/-- What is owned is a slice, and reads as the list. -/
theorem own_rd {w : World} {base : Nat} {e : TypeId} {k : IntKind} {v : Value} {n : Nat} {l : List Int} (h : w.ownsRow base e 1 v n (nums k l)) :
    ∃ A c, v = .slice A n c ∧ Rd w w.heap.size A n (fun i => .int k (l.getD i 0)) := by
  have hl := own_len h
  rcases h.2 with ⟨rfl, rfl⟩ | ⟨g, cap, cur, rfl, hb, hg, hn, _, hs, ht⟩
  · exact ⟨none, 0, rfl, fun hn => absurd hn (by omega)⟩
  · refine ⟨_, cap, rfl, fun hn0 => ⟨g, 0, rfl, (Array.getElem?_eq_some_iff.1 hg).1, fun i hi => ?_⟩⟩
    have hx := nums_get k l i (by omega)
    rw [← ht, List.getElem?_take] at hx
    simp only [Nat.mul_one, hi, if_true] at hx
    simp only [World.cell?, hg, Option.isSome_none, Bool.false_eq_true, if_false, Nat.zero_add]
    rw [← Array.getElem?_toList]
    exact hx
theorem own_block_ge {w : World} {base : Nat} {e : TypeId} {size : Nat} {v : Value} {n : Nat} {xs : List Value} (h : w.ownsRow base e size v n xs) (k : Nat) (hk : v.ownBlock = some k) : base ≤ k := (h.lt k hk).1
end Go.Proofs.Ytifnmnchpgbimaa
