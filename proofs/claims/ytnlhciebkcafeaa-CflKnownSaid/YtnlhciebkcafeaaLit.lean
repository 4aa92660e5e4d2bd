/- Rows of whole numbers that the text itself names: read. -/
import Derived.Test.YtnlhciebkcafeaaWMore
import Derived.Laws.IdiomRangeMap
namespace Go.Proofs.Ytnlhciebkcafeaa.Lit
open Go.RowKit Go.Proofs.YtnlhciebkcafeaaW.PrintWords Go.Proofs.YtnlhciebkcafeaaW.PrintLast Go.Proofs.YtnlhciebkcafeaaW.PrintMore

theorem lit_C {k : IntKind} (l : List Int) {w : World} {g t : Nat} {fr : Nat × Nat} (hl : l.length ≤ 100000) (hg : w.heap[g]? = some (.cells (l.map (Value.int k)).toArray t fr)) : Kd.C (Kd.int k) w (some ⟨g, 0, none⟩) l.length l := by
  refine Kd.C_of_reads (d := 0) ⟨rfl, by omega, fun _ => ⟨_, rfl, fun j hj => ?_⟩⟩
  have ea : ({ block := g, off := 0, spot := none } : Addr).add j = ⟨g, j, none⟩ := by unfold Addr.add; split <;> simp_all
  rw [ea]
  unfold World.cell?
  rw [hg]
  simp [List.getD_eq_getElem?_getD, List.getElem?_eq_getElem hj]
theorem old {w : World} {k : Nat} {o x : Obj} (h : w.heap[k]? = some x) : (w.alloc o).heap[k]? = some x :=
  (heap_alloc_old w o (Array.getElem?_eq_some_iff.1 h).1).trans h
theorem below2 (w : World) (o o' : Obj) : Below w.heap.size w ((w.alloc o).alloc o') := below_alloc (below_alloc (Below.refl _ _) o) o'
end Go.Proofs.Ytnlhciebkcafeaa.Lit
