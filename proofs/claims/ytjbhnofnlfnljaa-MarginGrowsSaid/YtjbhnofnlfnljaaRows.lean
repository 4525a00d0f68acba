/-
  No cell of these rows narrows 'for every input' (looked for: loops, veiled, ifaces, maps, wideKeys, modest, calm, conditions, laid).
  DERIVED. THE GIVEN ROWS OF THIS SEAT. 3 by the template 'for every input the law returns true; each argument reads behind the call as it read before'; 0 by the template 'total and deterministic' (their statements: YtjbhnofnlfnljaaTotals.lean).
  GIVEN WITH THE SEED: the statements are not yours to turn. If you find one false, say at which input.
  Laid BY PROGRAM, IN A SANDBOX (cutbox-rows.mjs): the forced cells as the released guide's own fill.sh prints them over the translation 9e7a414d749f78b4… (all of the seat's roots in one cut). By AI agents, Wed Nov 11 2026. No macro, syntax, notation, axiom, sorry.
-/
import Derived.Test.YtjbhnofnlfnljaaChecked
import GoSem.Claim
import GoSem.ClaimJoined
import GoSem.ClaimMapViews
import Derived.JoinedTies
import Derived.KernelRfl
namespace Go.Proofs.Ytjbhnofnlfnljaa
/- THE CELL 'sum', in the pinned program and in every row, IS THE sha256 OF THE DUMP (.gsa) THAT YtjbhnofnlfnljaaProg.lean LOADS. Nothing in Lean hashes anything: it is a label: what it is worth is what the hold of that sum in a sandbox is worth. -/
noncomputable def Try.pinned : Pinned := { name := "ytjbhnofnlfnljaa", sum := "9e7a414d749f78b4b045765b06df72281fd1b74fc7d15eb4e889c0f6d40b858d", checked := Try.checked }
namespace Rows
def none {H : Type} : Left H := { results := [], args := [] }

/-- 'busbarlaw36.MarginGrows': WHATEVER THE INPUT: true; the input reads as it did. -/
def marginGrowsSpec : ChangeSpec := { name := "marginGrows", fn := fun _ => fun
  | [d1, d2, d3] => { results := [.lit (.bool true)], args := [d1, d2, d3] }
  | _ => none }
def marginGrowsRow : OpenClaim := { program := "ytjbhnofnlfnljaa", sum := "9e7a414d749f78b4b045765b06df72281fd1b74fc7d15eb4e889c0f6d40b858d", func := "busbar/busbarlaw36.MarginGrows", spec := "marginGrows", unfollowed := true, recurses := true, apart := false }
def MarginGrowsSaid : Prop := marginGrowsRow.holds Try.pinned (OpenSpec.ofChange marginGrowsSpec)

/-- ITS FALSE NEIGHBOUR: 'it returns false'. Refute it at one input. -/
def marginGrowsWrong : ChangeSpec := { name := "marginGrows", fn := fun _ => fun
  | [d1, d2, d3] => { results := [.lit (.bool false)], args := [d1, d2, d3] }
  | _ => none }
def MarginGrowsWrongFalsely : Prop := marginGrowsRow.holds Try.pinned (OpenSpec.ofChange marginGrowsWrong)

/-- 'busbarlaw36.MarginLongest': WHATEVER THE INPUT: true; the input reads as it did. -/
def marginLongestSpec : ChangeSpec := { name := "marginLongest", fn := fun _ => fun
  | [d1, d2] => { results := [.lit (.bool true)], args := [d1, d2] }
  | _ => none }
def marginLongestRow : OpenClaim := { program := "ytjbhnofnlfnljaa", sum := "9e7a414d749f78b4b045765b06df72281fd1b74fc7d15eb4e889c0f6d40b858d", func := "busbar/busbarlaw36.MarginLongest", spec := "marginLongest", apart := false }
def MarginLongestSaid : Prop := marginLongestRow.holds Try.pinned (OpenSpec.ofChange marginLongestSpec)

/-- ITS FALSE NEIGHBOUR: 'it returns false'. Refute it at one input. -/
def marginLongestWrong : ChangeSpec := { name := "marginLongest", fn := fun _ => fun
  | [d1, d2] => { results := [.lit (.bool false)], args := [d1, d2] }
  | _ => none }
def MarginLongestWrongFalsely : Prop := marginLongestRow.holds Try.pinned (OpenSpec.ofChange marginLongestWrong)

/-- 'busbarlaw36.MarginTells': WHATEVER THE INPUT: true; the input reads as it did. -/
def marginTellsSpec : ChangeSpec := { name := "marginTells", fn := fun _ => fun
  | [d1, d2] => { results := [.lit (.bool true)], args := [d1, d2] }
  | _ => none }
def marginTellsRow : OpenClaim := { program := "ytjbhnofnlfnljaa", sum := "9e7a414d749f78b4b045765b06df72281fd1b74fc7d15eb4e889c0f6d40b858d", func := "busbar/busbarlaw36.MarginTells", spec := "marginTells", apart := false }
def MarginTellsSaid : Prop := marginTellsRow.holds Try.pinned (OpenSpec.ofChange marginTellsSpec)

/-- ITS FALSE NEIGHBOUR: 'it returns false'. Refute it at one input. -/
def marginTellsWrong : ChangeSpec := { name := "marginTells", fn := fun _ => fun
  | [d1, d2] => { results := [.lit (.bool false)], args := [d1, d2] }
  | _ => none }
def MarginTellsWrongFalsely : Prop := marginTellsRow.holds Try.pinned (OpenSpec.ofChange marginTellsWrong)

/- THE SECOND FORM. 'bulk': how many values and letters a reading holds, each counted each time it is reached (what is shared counts as often as it is met; a slice's spare places count too). A statement '..UptoSaid' is the law's where the arguments, and the package variables that the reading takes, are together of bulk at most 1048576: NARROWER than '..Said'. Prove '..Said' where nothing that the law and all that it calls make is longer than what came in: it says more and counts as full. Else prove '..UptoSaid'. A law counts once. -/
mutual
def uptoBulk {H : Type} : DataW H → Nat
  | .lit (.string bytes) => bytes.length + 1
  | .lit _ => 1
  | .nil => 1
  | .ptr d => uptoBulk d + 1
  | .slice elems spare => uptoBulkAll elems + uptoBulkAll spare + 1
  | .agg parts => uptoBulkAll parts + 1
  | .iface _ d => uptoBulk d + 1
  | .map entries => uptoBulkEntries entries + 1
  | .held _ => 1
def uptoBulkAll {H : Type} : List (DataW H) → Nat
  | [] => 0
  | d :: r => uptoBulk d + uptoBulkAll r
def uptoBulkEntries {H : Type} : List (Lit × DataW H) → Nat
  | [] => 0
  | x :: r => uptoBulkEntry x + uptoBulkEntries r
def uptoBulkEntry {H : Type} : Lit × DataW H → Nat
  | (.string bytes, d) => bytes.length + uptoBulk d + 1
  | (_, d) => uptoBulk d + 1
 end
def uptoSmall : (H : Type) → List (DataW H) → Bool := fun _ ds => decide (uptoBulkAll ds ≤ 1048576)
def OpenSpec.upto (s : _root_.Go.ChangeSpec) : _root_.Go.OpenSpec := { _root_.Go.OpenSpec.ofChange s with cond := some uptoSmall }

/-- 'busbarlaw36.MarginGrows', WHERE WHAT IT READS IS OF BULK AT MOST 1048576: true; the input reads as it did. -/
def marginGrowsUptoRow : OpenClaim := { program := "ytjbhnofnlfnljaa", sum := "9e7a414d749f78b4b045765b06df72281fd1b74fc7d15eb4e889c0f6d40b858d", func := "busbar/busbarlaw36.MarginGrows", spec := "marginGrows", unfollowed := true, recurses := true, apart := false, narrowed := true }
def MarginGrowsUptoSaid : Prop := marginGrowsUptoRow.holds Try.pinned (OpenSpec.upto marginGrowsSpec)

/-- 'busbarlaw36.MarginLongest', WHERE WHAT IT READS IS OF BULK AT MOST 1048576: true; the input reads as it did. -/
def marginLongestUptoRow : OpenClaim := { program := "ytjbhnofnlfnljaa", sum := "9e7a414d749f78b4b045765b06df72281fd1b74fc7d15eb4e889c0f6d40b858d", func := "busbar/busbarlaw36.MarginLongest", spec := "marginLongest", apart := false, narrowed := true }
def MarginLongestUptoSaid : Prop := marginLongestUptoRow.holds Try.pinned (OpenSpec.upto marginLongestSpec)

/-- 'busbarlaw36.MarginTells', WHERE WHAT IT READS IS OF BULK AT MOST 1048576: true; the input reads as it did. -/
def marginTellsUptoRow : OpenClaim := { program := "ytjbhnofnlfnljaa", sum := "9e7a414d749f78b4b045765b06df72281fd1b74fc7d15eb4e889c0f6d40b858d", func := "busbar/busbarlaw36.MarginTells", spec := "marginTells", apart := false, narrowed := true }
def MarginTellsUptoSaid : Prop := marginTellsUptoRow.holds Try.pinned (OpenSpec.upto marginTellsSpec)

end Rows
end Go.Proofs.Ytjbhnofnlfnljaa
