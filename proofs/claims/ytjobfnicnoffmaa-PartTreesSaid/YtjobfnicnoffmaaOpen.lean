/- What came in, opened: slices of whole numbers, and flat structs and arrays. -/
import Derived.WalkKit
import Derived.ProofKit
import Derived.OpenShut
import Derived.WideShapes
namespace Go.Proofs.Ytjobfnicnoffmaa.Open
open Go.ChangeShapes Go.WideShapes Go.ChangeAt Go.RowKit

/-- What the walk is told of a slice of whole numbers that came in: it is nil; or it leads to a row of 'cap' cells, the numbers 'zs' (the first 'len' are its elements, the rest its spare room), each fitting its kind. -/
def IsRow (k : IntKind) (w : World) (a : Option Addr) (len cap : Nat) (zs : List Int) : Prop :=
  (a = none ∧ len = 0 ∧ cap = 0 ∧ zs = []) ∨
  ∃ x, a = some x ∧ len ≤ cap ∧ cap ≤ maxLen ∧ zs.length = cap ∧ (∀ i, i < zs.length → w.cell? (x.add i) = some (.int k (zs.getD i 0))) ∧ ∀ n ∈ zs, (Lit.int k n).wf = true

section
variable {P : Program} {w : World} {r : Reach} {base : Nat} {t u : TypeId} {v : Value} {cs : Array Value}
def flatDesc : TypeDesc → Bool
  | .struct _ | .array _ _ => true
  | _ => false
theorem okWide_flat {d : TypeDesc} (hu : P.underlying t = some d) (hd : flatDesc d = true) (h : Value.okWide P w r base t v) : ∃ cs, v = .agg cs ∧ cs.size = P.cellsOf t ∧ Row.okWide P w r base t cs := by
  unfold Value.okWide at h
  rw [hu] at h
  cases d <;> first | exact h | simp [flatDesc] at hd
theorem flat_int {k : IntKind} {ts : List TypeId} (h : Row.okWide P w r base t cs) (hts : P.cellTypes P.depth t = some ts) (hu : P.underlying u = some (.int k)) {i : Nat} {v : Value} (hv : cs[i]? = some v) (htu : ts[i % ts.length]? = some u) :
    ∃ n, v = .int k n ∧ (Lit.int k n).wf = true := by
  obtain ⟨ts', h1, _, h3⟩ := h
  rw [hts] at h1
  obtain rfl := Option.some.inj h1
  obtain ⟨u', hu', hc⟩ := h3 i v hv
  rw [htu] at hu'
  obtain rfl := Option.some.inj hu'
  unfold Cell.okWide at hc
  rw [hu] at hc
  cases v <;> simp_all [Cell.ok, Lit.wf]
  exact hc.2
theorem len_succ {α : Type} {l : List α} {n : Nat} (h : l.length = n + 1) : ∃ a t, l = a :: t ∧ t.length = n := by
  cases l with
  | nil => simp at h
  | cons a t => exact ⟨a, t, rfl, by simpa using h⟩
end

end Go.Proofs.Ytjobfnicnoffmaa.Open
