/-
  No cell of these rows narrows 'for every input' (looked for: loops, veiled, ifaces, maps, wideKeys, modest, calm, conditions, laid).
  DERIVED. THE GIVEN ROWS OF THIS SEAT. 6 by the template 'for every input the law returns true; each argument reads behind the call as it read before'; 0 by the template 'total and deterministic' (their statements: YtgflgeblimiocaaTotals.lean).
  GIVEN WITH THE SEED: the statements are not yours to turn. If you find one false, say at which input.
  Laid BY PROGRAM, IN A SANDBOX (cutbox-rows.mjs): the forced cells as the released guide's own fill.sh prints them over the translation 80e1e1b025e76bb8… (all of the seat's roots in one cut). By AI agents, Wed Nov 11 2026. No macro, syntax, notation, axiom, sorry.
-/
import Derived.Test.YtgflgeblimiocaaChecked
import GoSem.Claim
import GoSem.ClaimJoined
import GoSem.ClaimMapViews
import Derived.JoinedTies
import Derived.KernelRfl
namespace Go.Proofs.Ytgflgeblimiocaa
/- THE CELL 'sum', in the pinned program and in every row, IS THE sha256 OF THE DUMP (.gsa) THAT YtgflgeblimiocaaProg.lean LOADS. Nothing in Lean hashes anything: it is a label: what it is worth is what the hold of that sum in a sandbox is worth. -/
noncomputable def Try.pinned : Pinned := { name := "ytgflgeblimiocaa", sum := "80e1e1b025e76bb84ff1dfaf0c87d3cc23a89a24187e97d173181ff68b0c58aa", checked := Try.checked }
namespace Rows
def none {H : Type} : Left H := { results := [], args := [] }

/-- 'zoetropelaw09.QuantLevels': WHATEVER THE INPUT: true; the input reads as it did. -/
def quantLevelsSpec : ChangeSpec := { name := "quantLevels", fn := fun _ => fun
  | [d1, d2, d3] => { results := [.lit (.bool true)], args := [d1, d2, d3] }
  | _ => none }
def quantLevelsRow : OpenClaim := { program := "ytgflgeblimiocaa", sum := "80e1e1b025e76bb84ff1dfaf0c87d3cc23a89a24187e97d173181ff68b0c58aa", func := "zoetrope/zoetropelaw09.QuantLevels", spec := "quantLevels", apart := false }
def QuantLevelsSaid : Prop := quantLevelsRow.holds Try.pinned (OpenSpec.ofChange quantLevelsSpec)

/-- ITS FALSE NEIGHBOUR: 'it returns false'. Refute it at one input. -/
def quantLevelsWrong : ChangeSpec := { name := "quantLevels", fn := fun _ => fun
  | [d1, d2, d3] => { results := [.lit (.bool false)], args := [d1, d2, d3] }
  | _ => none }
def QuantLevelsWrongFalsely : Prop := quantLevelsRow.holds Try.pinned (OpenSpec.ofChange quantLevelsWrong)

/-- 'zoetropelaw09.QuantNear': WHATEVER THE INPUT: true; the input reads as it did. -/
def quantNearSpec : ChangeSpec := { name := "quantNear", fn := fun _ => fun
  | [d1, d2, d3] => { results := [.lit (.bool true)], args := [d1, d2, d3] }
  | _ => none }
def quantNearRow : OpenClaim := { program := "ytgflgeblimiocaa", sum := "80e1e1b025e76bb84ff1dfaf0c87d3cc23a89a24187e97d173181ff68b0c58aa", func := "zoetrope/zoetropelaw09.QuantNear", spec := "quantNear", apart := false }
def QuantNearSaid : Prop := quantNearRow.holds Try.pinned (OpenSpec.ofChange quantNearSpec)

/-- ITS FALSE NEIGHBOUR: 'it returns false'. Refute it at one input. -/
def quantNearWrong : ChangeSpec := { name := "quantNear", fn := fun _ => fun
  | [d1, d2, d3] => { results := [.lit (.bool false)], args := [d1, d2, d3] }
  | _ => none }
def QuantNearWrongFalsely : Prop := quantNearRow.holds Try.pinned (OpenSpec.ofChange quantNearWrong)

/-- 'zoetropelaw09.QuantBack': WHATEVER THE INPUT: true; the input reads as it did. -/
def quantBackSpec : ChangeSpec := { name := "quantBack", fn := fun _ => fun
  | [d1, d2, d3] => { results := [.lit (.bool true)], args := [d1, d2, d3] }
  | _ => none }
def quantBackRow : OpenClaim := { program := "ytgflgeblimiocaa", sum := "80e1e1b025e76bb84ff1dfaf0c87d3cc23a89a24187e97d173181ff68b0c58aa", func := "zoetrope/zoetropelaw09.QuantBack", spec := "quantBack", apart := false }
def QuantBackSaid : Prop := quantBackRow.holds Try.pinned (OpenSpec.ofChange quantBackSpec)

/-- ITS FALSE NEIGHBOUR: 'it returns false'. Refute it at one input. -/
def quantBackWrong : ChangeSpec := { name := "quantBack", fn := fun _ => fun
  | [d1, d2, d3] => { results := [.lit (.bool false)], args := [d1, d2, d3] }
  | _ => none }
def QuantBackWrongFalsely : Prop := quantBackRow.holds Try.pinned (OpenSpec.ofChange quantBackWrong)

/-- 'zoetropelaw09.QuantSteps': WHATEVER THE INPUT: true; the input reads as it did. -/
def quantStepsSpec : ChangeSpec := { name := "quantSteps", fn := fun _ => fun
  | [d1, d2, d3] => { results := [.lit (.bool true)], args := [d1, d2, d3] }
  | _ => none }
def quantStepsRow : OpenClaim := { program := "ytgflgeblimiocaa", sum := "80e1e1b025e76bb84ff1dfaf0c87d3cc23a89a24187e97d173181ff68b0c58aa", func := "zoetrope/zoetropelaw09.QuantSteps", spec := "quantSteps", apart := false }
def QuantStepsSaid : Prop := quantStepsRow.holds Try.pinned (OpenSpec.ofChange quantStepsSpec)

/-- ITS FALSE NEIGHBOUR: 'it returns false'. Refute it at one input. -/
def quantStepsWrong : ChangeSpec := { name := "quantSteps", fn := fun _ => fun
  | [d1, d2, d3] => { results := [.lit (.bool false)], args := [d1, d2, d3] }
  | _ => none }
def QuantStepsWrongFalsely : Prop := quantStepsRow.holds Try.pinned (OpenSpec.ofChange quantStepsWrong)

/-- 'zoetropelaw09.QuantRise': WHATEVER THE INPUT: true; the input reads as it did. -/
def quantRiseSpec : ChangeSpec := { name := "quantRise", fn := fun _ => fun
  | [d1, d2, d3] => { results := [.lit (.bool true)], args := [d1, d2, d3] }
  | _ => none }
def quantRiseRow : OpenClaim := { program := "ytgflgeblimiocaa", sum := "80e1e1b025e76bb84ff1dfaf0c87d3cc23a89a24187e97d173181ff68b0c58aa", func := "zoetrope/zoetropelaw09.QuantRise", spec := "quantRise", apart := false }
def QuantRiseSaid : Prop := quantRiseRow.holds Try.pinned (OpenSpec.ofChange quantRiseSpec)

/-- ITS FALSE NEIGHBOUR: 'it returns false'. Refute it at one input. -/
def quantRiseWrong : ChangeSpec := { name := "quantRise", fn := fun _ => fun
  | [d1, d2, d3] => { results := [.lit (.bool false)], args := [d1, d2, d3] }
  | _ => none }
def QuantRiseWrongFalsely : Prop := quantRiseRow.holds Try.pinned (OpenSpec.ofChange quantRiseWrong)

/-- 'zoetropelaw09.QuantKnown': WHATEVER THE INPUT: true; the input reads as it did. -/
def quantKnownSpec : ChangeSpec := { name := "quantKnown", fn := fun _ => fun
  | [] => { results := [.lit (.bool true)], args := [] }
  | _ => none }
def quantKnownRow : OpenClaim := { program := "ytgflgeblimiocaa", sum := "80e1e1b025e76bb84ff1dfaf0c87d3cc23a89a24187e97d173181ff68b0c58aa", func := "zoetrope/zoetropelaw09.QuantKnown", spec := "quantKnown", apart := false }
def QuantKnownSaid : Prop := quantKnownRow.holds Try.pinned (OpenSpec.ofChange quantKnownSpec)

/-- ITS FALSE NEIGHBOUR: 'it returns false'. Refute it at one input. -/
def quantKnownWrong : ChangeSpec := { name := "quantKnown", fn := fun _ => fun
  | [] => { results := [.lit (.bool false)], args := [] }
  | _ => none }
def QuantKnownWrongFalsely : Prop := quantKnownRow.holds Try.pinned (OpenSpec.ofChange quantKnownWrong)

/- THE SECOND FORM. 'bulk': how many values and letters a reading holds, each counted each time it is reached (what is shared counts as often as it is met; a slice's spare places count too). A statement '..UptoSaid' is the law's where the arguments, and the package variables that the reading takes, are together of bulk at most 1048576: NARROWER than '..Said'. Prove '..Said' where nothing that the law and all that it calls make is longer than what came in: it says more and counts as full. Else prove '..UptoSaid'. A law counts once. -/
mutual
def uptoBulk {H : Type} : DataW H → Nat
  | .lit (.string bytes) => bytes.length + 1
  | .lit _ => 1
  | .nil => 1
  | .ptr d => uptoBulk d + 1
  | .slice elems spare => uptoBulkAll elems + uptoBulkAll spare + 1
  | .agg parts => uptoBulkAll parts + 1
  | .iface _ d => uptoBulk d + 1
  | .map entries => uptoBulkEntries entries + 1
  | .held _ => 1
def uptoBulkAll {H : Type} : List (DataW H) → Nat
  | [] => 0
  | d :: r => uptoBulk d + uptoBulkAll r
def uptoBulkEntries {H : Type} : List (Lit × DataW H) → Nat
  | [] => 0
  | x :: r => uptoBulkEntry x + uptoBulkEntries r
def uptoBulkEntry {H : Type} : Lit × DataW H → Nat
  | (.string bytes, d) => bytes.length + uptoBulk d + 1
  | (_, d) => uptoBulk d + 1
 end
def uptoSmall : (H : Type) → List (DataW H) → Bool := fun _ ds => decide (uptoBulkAll ds ≤ 1048576)
def OpenSpec.upto (s : _root_.Go.ChangeSpec) : _root_.Go.OpenSpec := { _root_.Go.OpenSpec.ofChange s with cond := some uptoSmall }

/-- 'zoetropelaw09.QuantLevels', WHERE WHAT IT READS IS OF BULK AT MOST 1048576: true; the input reads as it did. -/
def quantLevelsUptoRow : OpenClaim := { program := "ytgflgeblimiocaa", sum := "80e1e1b025e76bb84ff1dfaf0c87d3cc23a89a24187e97d173181ff68b0c58aa", func := "zoetrope/zoetropelaw09.QuantLevels", spec := "quantLevels", apart := false, narrowed := true }
def QuantLevelsUptoSaid : Prop := quantLevelsUptoRow.holds Try.pinned (OpenSpec.upto quantLevelsSpec)

/-- 'zoetropelaw09.QuantNear', WHERE WHAT IT READS IS OF BULK AT MOST 1048576: true; the input reads as it did. -/
def quantNearUptoRow : OpenClaim := { program := "ytgflgeblimiocaa", sum := "80e1e1b025e76bb84ff1dfaf0c87d3cc23a89a24187e97d173181ff68b0c58aa", func := "zoetrope/zoetropelaw09.QuantNear", spec := "quantNear", apart := false, narrowed := true }
def QuantNearUptoSaid : Prop := quantNearUptoRow.holds Try.pinned (OpenSpec.upto quantNearSpec)

/-- 'zoetropelaw09.QuantBack', WHERE WHAT IT READS IS OF BULK AT MOST 1048576: true; the input reads as it did. -/
def quantBackUptoRow : OpenClaim := { program := "ytgflgeblimiocaa", sum := "80e1e1b025e76bb84ff1dfaf0c87d3cc23a89a24187e97d173181ff68b0c58aa", func := "zoetrope/zoetropelaw09.QuantBack", spec := "quantBack", apart := false, narrowed := true }
def QuantBackUptoSaid : Prop := quantBackUptoRow.holds Try.pinned (OpenSpec.upto quantBackSpec)

/-- 'zoetropelaw09.QuantSteps', WHERE WHAT IT READS IS OF BULK AT MOST 1048576: true; the input reads as it did. -/
def quantStepsUptoRow : OpenClaim := { program := "ytgflgeblimiocaa", sum := "80e1e1b025e76bb84ff1dfaf0c87d3cc23a89a24187e97d173181ff68b0c58aa", func := "zoetrope/zoetropelaw09.QuantSteps", spec := "quantSteps", apart := false, narrowed := true }
def QuantStepsUptoSaid : Prop := quantStepsUptoRow.holds Try.pinned (OpenSpec.upto quantStepsSpec)

/-- 'zoetropelaw09.QuantRise', WHERE WHAT IT READS IS OF BULK AT MOST 1048576: true; the input reads as it did. -/
def quantRiseUptoRow : OpenClaim := { program := "ytgflgeblimiocaa", sum := "80e1e1b025e76bb84ff1dfaf0c87d3cc23a89a24187e97d173181ff68b0c58aa", func := "zoetrope/zoetropelaw09.QuantRise", spec := "quantRise", apart := false, narrowed := true }
def QuantRiseUptoSaid : Prop := quantRiseUptoRow.holds Try.pinned (OpenSpec.upto quantRiseSpec)

/-- 'zoetropelaw09.QuantKnown', WHERE WHAT IT READS IS OF BULK AT MOST 1048576: true; the input reads as it did. -/
def quantKnownUptoRow : OpenClaim := { program := "ytgflgeblimiocaa", sum := "80e1e1b025e76bb84ff1dfaf0c87d3cc23a89a24187e97d173181ff68b0c58aa", func := "zoetrope/zoetropelaw09.QuantKnown", spec := "quantKnown", apart := false, narrowed := true }
def QuantKnownUptoSaid : Prop := quantKnownUptoRow.holds Try.pinned (OpenSpec.upto quantKnownSpec)

end Rows
end Go.Proofs.Ytgflgeblimiocaa
