/-
  No cell of these rows narrows 'for every input' (looked for: loops, veiled, ifaces, maps, wideKeys, modest, calm, conditions, laid).
  DERIVED. THE GIVEN ROWS OF THIS SEAT. 5 by the template 'for every input the law returns true; each argument reads behind the call as it read before'; 0 by the template 'total and deterministic' (their statements: YtnlhciebkcafeaaTotals.lean).
  GIVEN WITH THE SEED: the statements are not yours to turn. If you find one false, say at which input.
  Laid BY PROGRAM, IN A SANDBOX (cutbox-rows.mjs): the forced cells as the released guide's own fill.sh prints them over the translation c1dbeac8c974553c… (all of the seat's roots in one cut). By AI agents, Wed Nov 11 2026. No macro, syntax, notation, axiom, sorry.
-/
import Derived.Test.YtnlhciebkcafeaaChecked
import GoSem.Claim
import GoSem.ClaimJoined
import GoSem.ClaimMapViews
import Derived.JoinedTies
import Derived.KernelRfl
namespace Go.Proofs.Ytnlhciebkcafeaa
/- THE CELL 'sum', in the pinned program and in every row, IS THE sha256 OF THE DUMP (.gsa) THAT YtnlhciebkcafeaaProg.lean LOADS. Nothing in Lean hashes anything: it is a label: what it is worth is what the hold of that sum in a sandbox is worth. -/
noncomputable def Try.pinned : Pinned := { name := "ytnlhciebkcafeaa", sum := "c1dbeac8c974553c049c055d592b82f9e6bf260d048fc1cc09158f819c41feba", checked := Try.checked }
namespace Rows
def none {H : Type} : Left H := { results := [], args := [] }

/-- 'zoetropelaw13.CflAcs': WHATEVER THE INPUT: true; the input reads as it did. -/
def cflAcsSpec : ChangeSpec := { name := "cflAcs", fn := fun _ => fun
  | [d1, d2, d3] => { results := [.lit (.bool true)], args := [d1, d2, d3] }
  | _ => none }
def cflAcsRow : OpenClaim := { program := "ytnlhciebkcafeaa", sum := "c1dbeac8c974553c049c055d592b82f9e6bf260d048fc1cc09158f819c41feba", func := "zoetrope/zoetropelaw13.CflAcs", spec := "cflAcs", unfollowed := true, recurses := true, apart := false }
def CflAcsSaid : Prop := cflAcsRow.holds Try.pinned (OpenSpec.ofChange cflAcsSpec)

/-- ITS FALSE NEIGHBOUR: 'it returns false'. Refute it at one input. -/
def cflAcsWrong : ChangeSpec := { name := "cflAcs", fn := fun _ => fun
  | [d1, d2, d3] => { results := [.lit (.bool false)], args := [d1, d2, d3] }
  | _ => none }
def CflAcsWrongFalsely : Prop := cflAcsRow.holds Try.pinned (OpenSpec.ofChange cflAcsWrong)

/-- 'zoetropelaw13.CflPredicts': WHATEVER THE INPUT: true; the input reads as it did. -/
def cflPredictsSpec : ChangeSpec := { name := "cflPredicts", fn := fun _ => fun
  | [d1, d2, d3] => { results := [.lit (.bool true)], args := [d1, d2, d3] }
  | _ => none }
def cflPredictsRow : OpenClaim := { program := "ytnlhciebkcafeaa", sum := "c1dbeac8c974553c049c055d592b82f9e6bf260d048fc1cc09158f819c41feba", func := "zoetrope/zoetropelaw13.CflPredicts", spec := "cflPredicts", unfollowed := true, recurses := true, apart := false }
def CflPredictsSaid : Prop := cflPredictsRow.holds Try.pinned (OpenSpec.ofChange cflPredictsSpec)

/-- ITS FALSE NEIGHBOUR: 'it returns false'. Refute it at one input. -/
def cflPredictsWrong : ChangeSpec := { name := "cflPredicts", fn := fun _ => fun
  | [d1, d2, d3] => { results := [.lit (.bool false)], args := [d1, d2, d3] }
  | _ => none }
def CflPredictsWrongFalsely : Prop := cflPredictsRow.holds Try.pinned (OpenSpec.ofChange cflPredictsWrong)

/-- 'zoetropelaw13.CflMean': WHATEVER THE INPUT: true; the input reads as it did. -/
def cflMeanSpec : ChangeSpec := { name := "cflMean", fn := fun _ => fun
  | [d1, d2, d3] => { results := [.lit (.bool true)], args := [d1, d2, d3] }
  | _ => none }
def cflMeanRow : OpenClaim := { program := "ytnlhciebkcafeaa", sum := "c1dbeac8c974553c049c055d592b82f9e6bf260d048fc1cc09158f819c41feba", func := "zoetrope/zoetropelaw13.CflMean", spec := "cflMean", unfollowed := true, recurses := true, apart := false }
def CflMeanSaid : Prop := cflMeanRow.holds Try.pinned (OpenSpec.ofChange cflMeanSpec)

/-- ITS FALSE NEIGHBOUR: 'it returns false'. Refute it at one input. -/
def cflMeanWrong : ChangeSpec := { name := "cflMean", fn := fun _ => fun
  | [d1, d2, d3] => { results := [.lit (.bool false)], args := [d1, d2, d3] }
  | _ => none }
def CflMeanWrongFalsely : Prop := cflMeanRow.holds Try.pinned (OpenSpec.ofChange cflMeanWrong)

/-- 'zoetropelaw13.CflSigns': WHATEVER THE INPUT: true; the input reads as it did. -/
def cflSignsSpec : ChangeSpec := { name := "cflSigns", fn := fun _ => fun
  | [d1, d2, d3] => { results := [.lit (.bool true)], args := [d1, d2, d3] }
  | _ => none }
def cflSignsRow : OpenClaim := { program := "ytnlhciebkcafeaa", sum := "c1dbeac8c974553c049c055d592b82f9e6bf260d048fc1cc09158f819c41feba", func := "zoetrope/zoetropelaw13.CflSigns", spec := "cflSigns", unfollowed := true, recurses := true, apart := false }
def CflSignsSaid : Prop := cflSignsRow.holds Try.pinned (OpenSpec.ofChange cflSignsSpec)

/-- ITS FALSE NEIGHBOUR: 'it returns false'. Refute it at one input. -/
def cflSignsWrong : ChangeSpec := { name := "cflSigns", fn := fun _ => fun
  | [d1, d2, d3] => { results := [.lit (.bool false)], args := [d1, d2, d3] }
  | _ => none }
def CflSignsWrongFalsely : Prop := cflSignsRow.holds Try.pinned (OpenSpec.ofChange cflSignsWrong)

/-- 'zoetropelaw13.CflKnown': WHATEVER THE INPUT: true; the input reads as it did. -/
def cflKnownSpec : ChangeSpec := { name := "cflKnown", fn := fun _ => fun
  | [] => { results := [.lit (.bool true)], args := [] }
  | _ => none }
def cflKnownRow : OpenClaim := { program := "ytnlhciebkcafeaa", sum := "c1dbeac8c974553c049c055d592b82f9e6bf260d048fc1cc09158f819c41feba", func := "zoetrope/zoetropelaw13.CflKnown", spec := "cflKnown", unfollowed := true, recurses := true, apart := false }
def CflKnownSaid : Prop := cflKnownRow.holds Try.pinned (OpenSpec.ofChange cflKnownSpec)

/-- ITS FALSE NEIGHBOUR: 'it returns false'. Refute it at one input. -/
def cflKnownWrong : ChangeSpec := { name := "cflKnown", fn := fun _ => fun
  | [] => { results := [.lit (.bool false)], args := [] }
  | _ => none }
def CflKnownWrongFalsely : Prop := cflKnownRow.holds Try.pinned (OpenSpec.ofChange cflKnownWrong)

/- THE SECOND FORM. 'bulk': how many values and letters a reading holds, each counted each time it is reached (what is shared counts as often as it is met; a slice's spare places count too). A statement '..UptoSaid' is the law's where the arguments, and the package variables that the reading takes, are together of bulk at most 1048576: NARROWER than '..Said'. Prove '..Said' where nothing that the law and all that it calls make is longer than what came in: it says more and counts as full. Else prove '..UptoSaid'. A law counts once. -/
mutual
def uptoBulk {H : Type} : DataW H → Nat
  | .lit (.string bytes) => bytes.length + 1
  | .lit _ => 1
  | .nil => 1
  | .ptr d => uptoBulk d + 1
  | .slice elems spare => uptoBulkAll elems + uptoBulkAll spare + 1
  | .agg parts => uptoBulkAll parts + 1
  | .iface _ d => uptoBulk d + 1
  | .map entries => uptoBulkEntries entries + 1
  | .held _ => 1
def uptoBulkAll {H : Type} : List (DataW H) → Nat
  | [] => 0
  | d :: r => uptoBulk d + uptoBulkAll r
def uptoBulkEntries {H : Type} : List (Lit × DataW H) → Nat
  | [] => 0
  | x :: r => uptoBulkEntry x + uptoBulkEntries r
def uptoBulkEntry {H : Type} : Lit × DataW H → Nat
  | (.string bytes, d) => bytes.length + uptoBulk d + 1
  | (_, d) => uptoBulk d + 1
 end
def uptoSmall : (H : Type) → List (DataW H) → Bool := fun _ ds => decide (uptoBulkAll ds ≤ 1048576)
def OpenSpec.upto (s : _root_.Go.ChangeSpec) : _root_.Go.OpenSpec := { _root_.Go.OpenSpec.ofChange s with cond := some uptoSmall }

/-- 'zoetropelaw13.CflAcs', WHERE WHAT IT READS IS OF BULK AT MOST 1048576: true; the input reads as it did. -/
def cflAcsUptoRow : OpenClaim := { program := "ytnlhciebkcafeaa", sum := "c1dbeac8c974553c049c055d592b82f9e6bf260d048fc1cc09158f819c41feba", func := "zoetrope/zoetropelaw13.CflAcs", spec := "cflAcs", unfollowed := true, recurses := true, apart := false, narrowed := true }
def CflAcsUptoSaid : Prop := cflAcsUptoRow.holds Try.pinned (OpenSpec.upto cflAcsSpec)

/-- 'zoetropelaw13.CflPredicts', WHERE WHAT IT READS IS OF BULK AT MOST 1048576: true; the input reads as it did. -/
def cflPredictsUptoRow : OpenClaim := { program := "ytnlhciebkcafeaa", sum := "c1dbeac8c974553c049c055d592b82f9e6bf260d048fc1cc09158f819c41feba", func := "zoetrope/zoetropelaw13.CflPredicts", spec := "cflPredicts", unfollowed := true, recurses := true, apart := false, narrowed := true }
def CflPredictsUptoSaid : Prop := cflPredictsUptoRow.holds Try.pinned (OpenSpec.upto cflPredictsSpec)

/-- 'zoetropelaw13.CflMean', WHERE WHAT IT READS IS OF BULK AT MOST 1048576: true; the input reads as it did. -/
def cflMeanUptoRow : OpenClaim := { program := "ytnlhciebkcafeaa", sum := "c1dbeac8c974553c049c055d592b82f9e6bf260d048fc1cc09158f819c41feba", func := "zoetrope/zoetropelaw13.CflMean", spec := "cflMean", unfollowed := true, recurses := true, apart := false, narrowed := true }
def CflMeanUptoSaid : Prop := cflMeanUptoRow.holds Try.pinned (OpenSpec.upto cflMeanSpec)

/-- 'zoetropelaw13.CflSigns', WHERE WHAT IT READS IS OF BULK AT MOST 1048576: true; the input reads as it did. -/
def cflSignsUptoRow : OpenClaim := { program := "ytnlhciebkcafeaa", sum := "c1dbeac8c974553c049c055d592b82f9e6bf260d048fc1cc09158f819c41feba", func := "zoetrope/zoetropelaw13.CflSigns", spec := "cflSigns", unfollowed := true, recurses := true, apart := false, narrowed := true }
def CflSignsUptoSaid : Prop := cflSignsUptoRow.holds Try.pinned (OpenSpec.upto cflSignsSpec)

/-- 'zoetropelaw13.CflKnown', WHERE WHAT IT READS IS OF BULK AT MOST 1048576: true; the input reads as it did. -/
def cflKnownUptoRow : OpenClaim := { program := "ytnlhciebkcafeaa", sum := "c1dbeac8c974553c049c055d592b82f9e6bf260d048fc1cc09158f819c41feba", func := "zoetrope/zoetropelaw13.CflKnown", spec := "cflKnown", unfollowed := true, recurses := true, apart := false, narrowed := true }
def CflKnownUptoSaid : Prop := cflKnownUptoRow.holds Try.pinned (OpenSpec.upto cflKnownSpec)

end Rows
end Go.Proofs.Ytnlhciebkcafeaa
