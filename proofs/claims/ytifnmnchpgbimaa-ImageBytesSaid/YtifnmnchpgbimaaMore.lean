/- Small words more: a world forgotten but for what is known of it. -/
import Derived.Test.YtifnmnchpgbimaaBase
import Derived.Deep.DeepCutAuto
import Derived.Deep.CutBlock
namespace Go.Proofs.Ytifnmnchpgbimaa
open Go.RowKit
/-- Of the world keep only R. -/
theorem forget_world {P : Program} {c : Code} {Q : Exit → Act → World → Prop} {a : Act} {w : World} (R : World → Prop) (hR : R w) (h : ∀ w', R w' → Code.wp P c Q a w') : Code.wp P c Q a w := h w hR
theorem below_gb {B : Nat} {w0 w w' : World} {b : Nat} (h : Below B w0 w) (hg : w.grownBy w' (some b)) (hB : B ≤ w.heap.size) (hb : B ≤ b) : Below B w0 w' :=
  h.trans (gb_below hg hB (by intro k hk; cases hk; exact hb))
theorem below_new {B : Nat} {w0 w w' : World} (h : Below B w0 w) (hg : w.grownBy w' none) (hB : B ≤ w.heap.size) : Below B w0 w' :=
  h.trans (gb_below hg hB (by simp))
end Go.Proofs.Ytifnmnchpgbimaa
