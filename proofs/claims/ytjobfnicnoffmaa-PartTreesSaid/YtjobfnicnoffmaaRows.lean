/-
  No cell of these rows narrows 'for every input' (looked for: loops, veiled, ifaces, maps, wideKeys, modest, calm, conditions, laid).
  DERIVED. THE GIVEN ROWS OF THIS SEAT. 6 by the template 'for every input the law returns true; each argument reads behind the call as it read before'; 0 by the template 'total and deterministic' (their statements: YtjobfnicnoffmaaTotals.lean).
  GIVEN WITH THE SEED: the statements are not yours to turn. If you find one false, say at which input.
  Laid BY PROGRAM, IN A SANDBOX (cutbox-rows.mjs): the forced cells as the released guide's own fill.sh prints them over the translation aec870116a4835ac… (all of the seat's roots in one cut). By AI agents, Wed Nov 11 2026. No macro, syntax, notation, axiom, sorry.
-/
import Derived.Test.YtjobfnicnoffmaaChecked
import GoSem.Claim
import GoSem.ClaimJoined
import GoSem.ClaimMapViews
import Derived.JoinedTies
import Derived.KernelRfl
namespace Go.Proofs.Ytjobfnicnoffmaa
/- THE CELL 'sum', in the pinned program and in every row, IS THE sha256 OF THE DUMP (.gsa) THAT YtjobfnicnoffmaaProg.lean LOADS. Nothing in Lean hashes anything: it is a label: what it is worth is what the hold of that sum in a sandbox is worth. -/
noncomputable def Try.pinned : Pinned := { name := "ytjobfnicnoffmaa", sum := "aec870116a4835acf33f607a5941ea9152179630d00b403cdc5789c7d86711ef", checked := Try.checked }
namespace Rows
def none {H : Type} : Left H := { results := [], args := [] }

/-- 'zoetropelaw16.PartUsed': WHATEVER THE INPUT: true; the input reads as it did. -/
def partUsedSpec : ChangeSpec := { name := "partUsed", fn := fun _ => fun
  | [d1, d2, d3] => { results := [.lit (.bool true)], args := [d1, d2, d3] }
  | _ => none }
def partUsedRow : OpenClaim := { program := "ytjobfnicnoffmaa", sum := "aec870116a4835acf33f607a5941ea9152179630d00b403cdc5789c7d86711ef", func := "zoetrope/zoetropelaw16.PartUsed", spec := "partUsed", unfollowed := true, recurses := true, apart := false }
def PartUsedSaid : Prop := partUsedRow.holds Try.pinned (OpenSpec.ofChange partUsedSpec)

/-- ITS FALSE NEIGHBOUR: 'it returns false'. Refute it at one input. -/
def partUsedWrong : ChangeSpec := { name := "partUsed", fn := fun _ => fun
  | [d1, d2, d3] => { results := [.lit (.bool false)], args := [d1, d2, d3] }
  | _ => none }
def PartUsedWrongFalsely : Prop := partUsedRow.holds Try.pinned (OpenSpec.ofChange partUsedWrong)

/-- 'zoetropelaw16.PartKnown': WHATEVER THE INPUT: true; the input reads as it did. -/
def partKnownSpec : ChangeSpec := { name := "partKnown", fn := fun _ => fun
  | [] => { results := [.lit (.bool true)], args := [] }
  | _ => none }
def partKnownRow : OpenClaim := { program := "ytjobfnicnoffmaa", sum := "aec870116a4835acf33f607a5941ea9152179630d00b403cdc5789c7d86711ef", func := "zoetrope/zoetropelaw16.PartKnown", spec := "partKnown", unfollowed := true, recurses := true, apart := false }
def PartKnownSaid : Prop := partKnownRow.holds Try.pinned (OpenSpec.ofChange partKnownSpec)

/-- ITS FALSE NEIGHBOUR: 'it returns false'. Refute it at one input. -/
def partKnownWrong : ChangeSpec := { name := "partKnown", fn := fun _ => fun
  | [] => { results := [.lit (.bool false)], args := [] }
  | _ => none }
def PartKnownWrongFalsely : Prop := partKnownRow.holds Try.pinned (OpenSpec.ofChange partKnownWrong)

/-- 'zoetropelaw16.PartCuts': WHATEVER THE INPUT: true; the input reads as it did. -/
def partCutsSpec : ChangeSpec := { name := "partCuts", fn := fun _ => fun
  | [d1, d2, d3] => { results := [.lit (.bool true)], args := [d1, d2, d3] }
  | _ => none }
def partCutsRow : OpenClaim := { program := "ytjobfnicnoffmaa", sum := "aec870116a4835acf33f607a5941ea9152179630d00b403cdc5789c7d86711ef", func := "zoetrope/zoetropelaw16.PartCuts", spec := "partCuts", unfollowed := true, recurses := true, apart := false }
def PartCutsSaid : Prop := partCutsRow.holds Try.pinned (OpenSpec.ofChange partCutsSpec)

/-- ITS FALSE NEIGHBOUR: 'it returns false'. Refute it at one input. -/
def partCutsWrong : ChangeSpec := { name := "partCuts", fn := fun _ => fun
  | [d1, d2, d3] => { results := [.lit (.bool false)], args := [d1, d2, d3] }
  | _ => none }
def PartCutsWrongFalsely : Prop := partCutsRow.holds Try.pinned (OpenSpec.ofChange partCutsWrong)

/-- 'zoetropelaw16.PartTrees': WHATEVER THE INPUT: true; the input reads as it did. -/
def partTreesSpec : ChangeSpec := { name := "partTrees", fn := fun _ => fun
  | [d1, d2, d3] => { results := [.lit (.bool true)], args := [d1, d2, d3] }
  | _ => none }
def partTreesRow : OpenClaim := { program := "ytjobfnicnoffmaa", sum := "aec870116a4835acf33f607a5941ea9152179630d00b403cdc5789c7d86711ef", func := "zoetrope/zoetropelaw16.PartTrees", spec := "partTrees", unfollowed := true, recurses := true, apart := false }
def PartTreesSaid : Prop := partTreesRow.holds Try.pinned (OpenSpec.ofChange partTreesSpec)

/-- ITS FALSE NEIGHBOUR: 'it returns false'. Refute it at one input. -/
def partTreesWrong : ChangeSpec := { name := "partTrees", fn := fun _ => fun
  | [d1, d2, d3] => { results := [.lit (.bool false)], args := [d1, d2, d3] }
  | _ => none }
def PartTreesWrongFalsely : Prop := partTreesRow.holds Try.pinned (OpenSpec.ofChange partTreesWrong)

/-- 'zoetropelaw16.PartTiles': WHATEVER THE INPUT: true; the input reads as it did. -/
def partTilesSpec : ChangeSpec := { name := "partTiles", fn := fun _ => fun
  | [d1, d2, d3] => { results := [.lit (.bool true)], args := [d1, d2, d3] }
  | _ => none }
def partTilesRow : OpenClaim := { program := "ytjobfnicnoffmaa", sum := "aec870116a4835acf33f607a5941ea9152179630d00b403cdc5789c7d86711ef", func := "zoetrope/zoetropelaw16.PartTiles", spec := "partTiles", unfollowed := true, recurses := true, apart := false }
def PartTilesSaid : Prop := partTilesRow.holds Try.pinned (OpenSpec.ofChange partTilesSpec)

/-- ITS FALSE NEIGHBOUR: 'it returns false'. Refute it at one input. -/
def partTilesWrong : ChangeSpec := { name := "partTiles", fn := fun _ => fun
  | [d1, d2, d3] => { results := [.lit (.bool false)], args := [d1, d2, d3] }
  | _ => none }
def PartTilesWrongFalsely : Prop := partTilesRow.holds Try.pinned (OpenSpec.ofChange partTilesWrong)

/-- 'zoetropelaw16.PartParts': WHATEVER THE INPUT: true; the input reads as it did. -/
def partPartsSpec : ChangeSpec := { name := "partParts", fn := fun _ => fun
  | [d1, d2] => { results := [.lit (.bool true)], args := [d1, d2] }
  | _ => none }
def partPartsRow : OpenClaim := { program := "ytjobfnicnoffmaa", sum := "aec870116a4835acf33f607a5941ea9152179630d00b403cdc5789c7d86711ef", func := "zoetrope/zoetropelaw16.PartParts", spec := "partParts", unfollowed := true, recurses := true, apart := false }
def PartPartsSaid : Prop := partPartsRow.holds Try.pinned (OpenSpec.ofChange partPartsSpec)

/-- ITS FALSE NEIGHBOUR: 'it returns false'. Refute it at one input. -/
def partPartsWrong : ChangeSpec := { name := "partParts", fn := fun _ => fun
  | [d1, d2] => { results := [.lit (.bool false)], args := [d1, d2] }
  | _ => none }
def PartPartsWrongFalsely : Prop := partPartsRow.holds Try.pinned (OpenSpec.ofChange partPartsWrong)

/- THE SECOND FORM. 'bulk': how many values and letters a reading holds, each counted each time it is reached (what is shared counts as often as it is met; a slice's spare places count too). A statement '..UptoSaid' is the law's where the arguments, and the package variables that the reading takes, are together of bulk at most 1048576: NARROWER than '..Said'. Prove '..Said' where nothing that the law and all that it calls make is longer than what came in: it says more and counts as full. Else prove '..UptoSaid'. A law counts once. -/
mutual
def uptoBulk {H : Type} : DataW H → Nat
  | .lit (.string bytes) => bytes.length + 1
  | .lit _ => 1
  | .nil => 1
  | .ptr d => uptoBulk d + 1
  | .slice elems spare => uptoBulkAll elems + uptoBulkAll spare + 1
  | .agg parts => uptoBulkAll parts + 1
  | .iface _ d => uptoBulk d + 1
  | .map entries => uptoBulkEntries entries + 1
  | .held _ => 1
def uptoBulkAll {H : Type} : List (DataW H) → Nat
  | [] => 0
  | d :: r => uptoBulk d + uptoBulkAll r
def uptoBulkEntries {H : Type} : List (Lit × DataW H) → Nat
  | [] => 0
  | x :: r => uptoBulkEntry x + uptoBulkEntries r
def uptoBulkEntry {H : Type} : Lit × DataW H → Nat
  | (.string bytes, d) => bytes.length + uptoBulk d + 1
  | (_, d) => uptoBulk d + 1
 end
def uptoSmall : (H : Type) → List (DataW H) → Bool := fun _ ds => decide (uptoBulkAll ds ≤ 1048576)
def OpenSpec.upto (s : _root_.Go.ChangeSpec) : _root_.Go.OpenSpec := { _root_.Go.OpenSpec.ofChange s with cond := some uptoSmall }

/-- 'zoetropelaw16.PartUsed', WHERE WHAT IT READS IS OF BULK AT MOST 1048576: true; the input reads as it did. -/
def partUsedUptoRow : OpenClaim := { program := "ytjobfnicnoffmaa", sum := "aec870116a4835acf33f607a5941ea9152179630d00b403cdc5789c7d86711ef", func := "zoetrope/zoetropelaw16.PartUsed", spec := "partUsed", unfollowed := true, recurses := true, apart := false, narrowed := true }
def PartUsedUptoSaid : Prop := partUsedUptoRow.holds Try.pinned (OpenSpec.upto partUsedSpec)

/-- 'zoetropelaw16.PartKnown', WHERE WHAT IT READS IS OF BULK AT MOST 1048576: true; the input reads as it did. -/
def partKnownUptoRow : OpenClaim := { program := "ytjobfnicnoffmaa", sum := "aec870116a4835acf33f607a5941ea9152179630d00b403cdc5789c7d86711ef", func := "zoetrope/zoetropelaw16.PartKnown", spec := "partKnown", unfollowed := true, recurses := true, apart := false, narrowed := true }
def PartKnownUptoSaid : Prop := partKnownUptoRow.holds Try.pinned (OpenSpec.upto partKnownSpec)

/-- 'zoetropelaw16.PartCuts', WHERE WHAT IT READS IS OF BULK AT MOST 1048576: true; the input reads as it did. -/
def partCutsUptoRow : OpenClaim := { program := "ytjobfnicnoffmaa", sum := "aec870116a4835acf33f607a5941ea9152179630d00b403cdc5789c7d86711ef", func := "zoetrope/zoetropelaw16.PartCuts", spec := "partCuts", unfollowed := true, recurses := true, apart := false, narrowed := true }
def PartCutsUptoSaid : Prop := partCutsUptoRow.holds Try.pinned (OpenSpec.upto partCutsSpec)

/-- 'zoetropelaw16.PartTrees', WHERE WHAT IT READS IS OF BULK AT MOST 1048576: true; the input reads as it did. -/
def partTreesUptoRow : OpenClaim := { program := "ytjobfnicnoffmaa", sum := "aec870116a4835acf33f607a5941ea9152179630d00b403cdc5789c7d86711ef", func := "zoetrope/zoetropelaw16.PartTrees", spec := "partTrees", unfollowed := true, recurses := true, apart := false, narrowed := true }
def PartTreesUptoSaid : Prop := partTreesUptoRow.holds Try.pinned (OpenSpec.upto partTreesSpec)

/-- 'zoetropelaw16.PartTiles', WHERE WHAT IT READS IS OF BULK AT MOST 1048576: true; the input reads as it did. -/
def partTilesUptoRow : OpenClaim := { program := "ytjobfnicnoffmaa", sum := "aec870116a4835acf33f607a5941ea9152179630d00b403cdc5789c7d86711ef", func := "zoetrope/zoetropelaw16.PartTiles", spec := "partTiles", unfollowed := true, recurses := true, apart := false, narrowed := true }
def PartTilesUptoSaid : Prop := partTilesUptoRow.holds Try.pinned (OpenSpec.upto partTilesSpec)

/-- 'zoetropelaw16.PartParts', WHERE WHAT IT READS IS OF BULK AT MOST 1048576: true; the input reads as it did. -/
def partPartsUptoRow : OpenClaim := { program := "ytjobfnicnoffmaa", sum := "aec870116a4835acf33f607a5941ea9152179630d00b403cdc5789c7d86711ef", func := "zoetrope/zoetropelaw16.PartParts", spec := "partParts", unfollowed := true, recurses := true, apart := false, narrowed := true }
def PartPartsUptoSaid : Prop := partPartsUptoRow.holds Try.pinned (OpenSpec.upto partPartsSpec)

end Rows
end Go.Proofs.Ytjobfnicnoffmaa
