/-
  No cell of these rows narrows 'for every input' (looked for: loops, veiled, ifaces, maps, wideKeys, modest, calm, conditions, laid).
  DERIVED. THE GIVEN ROWS OF THIS SEAT. 2 by the template 'for every input the law returns true; each argument reads behind the call as it read before'; 0 by the template 'total and deterministic' (their statements: YtkfmghlhbkpmmaaTotals.lean).
  GIVEN WITH THE SEED: the statements are not yours to turn. If you find one false, say at which input.
  Laid BY PROGRAM, IN A SANDBOX (cutbox-rows.mjs): the forced cells as the released guide's own fill.sh prints them over the translation 4644729b1bf25ef3… (all of the seat's roots in one cut). By AI agents, Wed Nov 11 2026. No macro, syntax, notation, axiom, sorry.
-/
import Derived.Test.YtkfmghlhbkpmmaaChecked
import GoSem.Claim
import GoSem.ClaimJoined
import GoSem.ClaimMapViews
import Derived.JoinedTies
import Derived.KernelRfl
namespace Go.Proofs.Ytkfmghlhbkpmmaa
/- THE CELL 'sum', in the pinned program and in every row, IS THE sha256 OF THE DUMP (.gsa) THAT YtkfmghlhbkpmmaaProg.lean LOADS. Nothing in Lean hashes anything: it is a label: what it is worth is what the hold of that sum in a sandbox is worth. -/
noncomputable def Try.pinned : Pinned := { name := "ytkfmghlhbkpmmaa", sum := "4644729b1bf25ef3935d8dc8a0f3ecfb039443e7264dce7536baba27972d9223", checked := Try.checked }
namespace Rows
def none {H : Type} : Left H := { results := [], args := [] }

/-- 'busbarlaw04.DelaySees': WHATEVER THE INPUT: true; the input reads as it did. -/
def delaySeesSpec : ChangeSpec := { name := "delaySees", fn := fun _ => fun
  | [d1, d2, d3] => { results := [.lit (.bool true)], args := [d1, d2, d3] }
  | _ => none }
def delaySeesRow : OpenClaim := { program := "ytkfmghlhbkpmmaa", sum := "4644729b1bf25ef3935d8dc8a0f3ecfb039443e7264dce7536baba27972d9223", func := "busbar/busbarlaw04.DelaySees", spec := "delaySees", apart := false }
def DelaySeesSaid : Prop := delaySeesRow.holds Try.pinned (OpenSpec.ofChange delaySeesSpec)

/-- ITS FALSE NEIGHBOUR: 'it returns false'. Refute it at one input. -/
def delaySeesWrong : ChangeSpec := { name := "delaySees", fn := fun _ => fun
  | [d1, d2, d3] => { results := [.lit (.bool false)], args := [d1, d2, d3] }
  | _ => none }
def DelaySeesWrongFalsely : Prop := delaySeesRow.holds Try.pinned (OpenSpec.ofChange delaySeesWrong)

/-- 'busbarlaw04.DelayTwice': WHATEVER THE INPUT: true; the input reads as it did. -/
def delayTwiceSpec : ChangeSpec := { name := "delayTwice", fn := fun _ => fun
  | [d1, d2, d3] => { results := [.lit (.bool true)], args := [d1, d2, d3] }
  | _ => none }
def delayTwiceRow : OpenClaim := { program := "ytkfmghlhbkpmmaa", sum := "4644729b1bf25ef3935d8dc8a0f3ecfb039443e7264dce7536baba27972d9223", func := "busbar/busbarlaw04.DelayTwice", spec := "delayTwice", apart := false }
def DelayTwiceSaid : Prop := delayTwiceRow.holds Try.pinned (OpenSpec.ofChange delayTwiceSpec)

/-- ITS FALSE NEIGHBOUR: 'it returns false'. Refute it at one input. -/
def delayTwiceWrong : ChangeSpec := { name := "delayTwice", fn := fun _ => fun
  | [d1, d2, d3] => { results := [.lit (.bool false)], args := [d1, d2, d3] }
  | _ => none }
def DelayTwiceWrongFalsely : Prop := delayTwiceRow.holds Try.pinned (OpenSpec.ofChange delayTwiceWrong)

/- THE SECOND FORM. 'bulk': how many values and letters a reading holds, each counted each time it is reached (what is shared counts as often as it is met; a slice's spare places count too). A statement '..UptoSaid' is the law's where the arguments, and the package variables that the reading takes, are together of bulk at most 1048576: NARROWER than '..Said'. Prove '..Said' where nothing that the law and all that it calls make is longer than what came in: it says more and counts as full. Else prove '..UptoSaid'. A law counts once. -/
mutual
def uptoBulk {H : Type} : DataW H → Nat
  | .lit (.string bytes) => bytes.length + 1
  | .lit _ => 1
  | .nil => 1
  | .ptr d => uptoBulk d + 1
  | .slice elems spare => uptoBulkAll elems + uptoBulkAll spare + 1
  | .agg parts => uptoBulkAll parts + 1
  | .iface _ d => uptoBulk d + 1
  | .map entries => uptoBulkEntries entries + 1
  | .held _ => 1
def uptoBulkAll {H : Type} : List (DataW H) → Nat
  | [] => 0
  | d :: r => uptoBulk d + uptoBulkAll r
def uptoBulkEntries {H : Type} : List (Lit × DataW H) → Nat
  | [] => 0
  | x :: r => uptoBulkEntry x + uptoBulkEntries r
def uptoBulkEntry {H : Type} : Lit × DataW H → Nat
  | (.string bytes, d) => bytes.length + uptoBulk d + 1
  | (_, d) => uptoBulk d + 1
 end
def uptoSmall : (H : Type) → List (DataW H) → Bool := fun _ ds => decide (uptoBulkAll ds ≤ 1048576)
def OpenSpec.upto (s : _root_.Go.ChangeSpec) : _root_.Go.OpenSpec := { _root_.Go.OpenSpec.ofChange s with cond := some uptoSmall }

/-- 'busbarlaw04.DelaySees', WHERE WHAT IT READS IS OF BULK AT MOST 1048576: true; the input reads as it did. -/
def delaySeesUptoRow : OpenClaim := { program := "ytkfmghlhbkpmmaa", sum := "4644729b1bf25ef3935d8dc8a0f3ecfb039443e7264dce7536baba27972d9223", func := "busbar/busbarlaw04.DelaySees", spec := "delaySees", apart := false, narrowed := true }
def DelaySeesUptoSaid : Prop := delaySeesUptoRow.holds Try.pinned (OpenSpec.upto delaySeesSpec)

/-- 'busbarlaw04.DelayTwice', WHERE WHAT IT READS IS OF BULK AT MOST 1048576: true; the input reads as it did. -/
def delayTwiceUptoRow : OpenClaim := { program := "ytkfmghlhbkpmmaa", sum := "4644729b1bf25ef3935d8dc8a0f3ecfb039443e7264dce7536baba27972d9223", func := "busbar/busbarlaw04.DelayTwice", spec := "delayTwice", apart := false, narrowed := true }
def DelayTwiceUptoSaid : Prop := delayTwiceUptoRow.holds Try.pinned (OpenSpec.upto delayTwiceSpec)

end Rows
end Go.Proofs.Ytkfmghlhbkpmmaa
