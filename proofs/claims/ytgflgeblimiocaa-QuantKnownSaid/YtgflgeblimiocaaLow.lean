/- A region that draws its order, whose operations read and whose callees may make memory of their own but hand back plain values: one walk of the text's order serves every order. -/
import Derived.Deep.QuietTactic
import Derived.BigQuiet
import Derived.WalkKit
import Derived.Laws.Rows
namespace Go.Proofs.Ytgflgeblimiocaa.Low
open Go.RowKit

/-- The worlds that are as w was, below its heap's end. -/
def Lo (w : World) : Type := { w' : World // Below w.heap.size w w' }
instance (w : World) : Nonempty (Lo w) := ⟨⟨w, Below.refl _ _⟩⟩
theorem Lo.cell {w : World} (x : Lo w) {b o : Nat} (h : b < w.heap.size) : x.val.cell? ⟨b, o, none⟩ = w.cell? ⟨b, o, none⟩ := x.property.cell (p := ⟨b, o, none⟩) h
/-- A callee that leaves what was there alone, met in a world of the class. -/
theorem lo_call {P : Program} {f : FuncId} {args : Array Value} {w : World} {x : Lo w} {v : Value}
    (c : Calls P f args x.val fun e w' => e = .returned v ∧ Below x.val.heap.size x.val w') : Calls P f args x.val fun e w'' => e = .returned v ∧ ∃ y : Lo w, w'' = y.val :=
  c.mono fun _ w'' ⟨he, hb⟩ => ⟨he, ⟨w'', x.property.trans (hb.mono x.property.size)⟩, rfl⟩
theorem wp_region_low {P : Program} {id : Nat} {Q : Exit → Act → World → Prop} {a : Act} {w : World} {l : List Oper} (hm : P.follows .mixedOrders = true) (hB : Region.lexB .any l.toArray = true)
    (h : wpQuiet P l.toArray (fun w' => ∃ x : Lo w, w' = x.val) (fun a' => ∀ w', (∃ x : Lo w, w' = x.val) → Q .normal a' w') l a) : (Code.region id l.toArray true).wp P Q a w :=
  wp_region_quiet (C := fun w' => ∃ x : Lo w, w' = x.val) hm hB ⟨⟨w.drew, (Below.refl _ _).drew⟩, rfl⟩ (by simpa using h)
/-- A whole row loaded inside such a region. -/
theorem lo_load {P : Program} {ops : Array Oper} {rest : List Oper} {o : Oper} {a : Act} {Q : Act → Prop} {W0 : World} (hw : Region.wanted o (yielded ops a.tmps) = true) (ty : TypeId) (x : Operand) (ho : o.op = .load ty x)
    (g : Nat) (hx : a.eval x = .pointer (some ⟨g, 0, none⟩)) (t : TypeId) (cs : Array Value) (fr : Nat × Nat) (d : TypeDesc) (hg : W0.heap[g]? = some (.cells cs t fr))
    (hu : P.underlying ty = some d) (hd : (match d with | .struct _ | .array _ _ => true | _ => false) = true) (hi : (P.info? ty).map (·.size) = some cs.size)
    (h : wpQuiet P ops (fun W => ∃ x : Lo W0, W = x.val) Q rest (a.put o.dst (.agg cs))) : wpQuiet P ops (fun W => ∃ x : Lo W0, W = x.val) Q (o :: rest) a := by
  unfold wpQuiet
  rw [if_pos hw]
  refine ⟨.agg cs, ?_, h⟩
  rintro W ⟨y, rfl⟩
  have hlt : g < W0.heap.size := (Array.getElem?_eq_some_iff.1 hg).1
  have hg' : y.val.heap[g]? = some (.cells cs t fr) := (y.property.block g hlt).trans hg
  unfold Oper.quietAt execOp
  simp only [ho, hx, Instr.loadAt, Instr.sureAddr, Sem.run_bind, Sem.run_pure, Result.andThen_ok, run_loadVar_row y.val g t ty cs fr d hg' hu hd hi]
  exact ⟨rfl, rfl⟩
theorem heap_dn (w : World) (o : Obj) (n : Nat) : ((w.alloc o).drewN n).heap[w.heap.size]? = some o := heap_alloc_new w o

end Go.Proofs.Ytgflgeblimiocaa.Low
