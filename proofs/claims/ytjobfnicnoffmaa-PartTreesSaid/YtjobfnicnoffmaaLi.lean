/- Rows that the text itself names: read, and handed on. -/
import Derived.Test.YtjobfnicnoffmaaPPartTreesx0
import Derived.Laws.IdiomRangeMap
namespace Go.Proofs.Ytjobfnicnoffmaa.Li
open Go.RowKit Go.Proofs.Ytjobfnicnoffmaa.PPartTrees Go.Proofs.YtjobfnicnoffmaaW.PrintWords Go.Proofs.YtjobfnicnoffmaaW.PrintLast Go.Proofs.YtjobfnicnoffmaaW.PrintMore

section
variable {α : Type} {d : Kd α} {f : α → List Value}
theorem reps_flat {R : α → List Value → Prop} {size : Nat} (hf : ∀ x, R x (f x)) (hs : ∀ x, (f x).length = size) (xs : List α) : Reps R size xs (xs.flatMap f) := by
  induction xs with
  | nil => exact Reps.none _ _
  | cons x t ih =>
    have h1 : Reps R size [x] (f x) := by
      have := Reps.snoc (Reps.none R size) (hf x) (hs x)
      simpa using this
    have := Kd.reps_append h1 ih
    simpa using this
theorem reads_of_reps {R : α → List Value → Prop} {size : Nat} {xs : List α} {cs : List Value} (h : Reps R size xs cs) {w : World} {g t : Nat} {fr : Nat × Nat} (hl : xs.length ≤ 9223372036854775807) (hg : w.heap[g]? = some (.cells cs.toArray t fr)) :
    ReadsRow R size w (some ⟨g, 0, none⟩) xs.length xs := by
  refine ⟨rfl, hl, fun _ => ⟨_, rfl, fun j p hj => ⟨(cs.drop (j * size)).take size, ?_, h.2 j p hj, fun i u hi => ?_⟩⟩⟩
  · have hjl : j < xs.length := (List.getElem?_eq_some_iff.1 hj).1
    have : j * size + size ≤ xs.length * size := by rw [← Nat.succ_mul]; exact Nat.mul_le_mul_right _ hjl
    rw [List.length_take, List.length_drop, h.1]; omega
  · have ea : ({ block := g, off := 0, spot := none } : Addr).add (j * size + i) = ⟨g, j * size + i, none⟩ := by unfold Addr.add; split <;> simp_all
    rw [ea]
    unfold World.cell?
    rw [hg]
    rw [List.getElem?_take] at hi
    split at hi
    · rw [List.getElem?_drop] at hi
      simpa using hi
    · cases hi
theorem row_C (hf : ∀ w x, d.K w x (f x)) (xs : List α) {w : World} {g t : Nat} {fr : Nat × Nat} (hl : xs.length ≤ 9223372036854775807) (hg : w.heap[g]? = some (.cells (xs.flatMap f).toArray t fr)) : d.C w (some ⟨g, 0, none⟩) xs.length xs :=
  reads_of_reps (reps_flat (hf w) (fun x => d.K_len (hf w x)) xs) hl hg
theorem row_R (hf : ∀ w base ok x, d.M w base ok x (f x)) (xs : List α) (w : World) (e base : Nat) (ok : Nat → Prop) (hb : base ≤ w.heap.size) (hok : ok w.heap.size) (hl : xs.length ≤ 100000) :
    d.R e (w.alloc (.cells (xs.flatMap f).toArray e)) base ok (.slice (some ⟨w.heap.size, 0, none⟩) xs.length xs.length) xs := by
  have hr := reps_flat (R := d.M (w.alloc (.cells (xs.flatMap f).toArray e)) base (fun k => ok k ∧ some k ≠ (Value.slice (some ⟨w.heap.size, 0, none⟩) xs.length xs.length).ownBlock)) (hf _ _ _) (fun x => d.K_len (d.K_of_M (hf w base ok x))) xs
  refine ⟨fun k hk => ?_, xs.flatMap f, ?_, hr⟩
  · have : w.heap.size = k := by simpa [Value.ownBlock] using hk
    subst this
    exact hok
  · have h2 := World.ownsRow_lit (base := base) (e := e) (size := d.sz) w (xs.flatMap f).toArray xs.length hb (by unfold maxLen; omega) (by simpa using hr.1)
    simpa using h2
/-- Nothing, with room. -/
theorem row_none (w : World) (e base cap : Nat) (cs : Array Value) (ok : Nat → Prop) (hb : base ≤ w.heap.size) (hok : ok w.heap.size) (hl : cap ≤ maxLen) (hs : cs.size = cap * d.sz) :
    d.R e (w.alloc (.cells cs e)) base ok (.slice (some ⟨w.heap.size, 0, none⟩) 0 cap) [] := by
  refine ⟨fun k hk => ?_, [], World.ownsRow_made w cs cap hb hl hs, Reps.none _ _⟩
  have : w.heap.size = k := by simpa [Value.ownBlock] using hk
  subst this
  exact hok
end
/-- A rectangle's cells. -/
def cS (x : S23) : List Value := [.int .i64 x.f0, .int .i64 x.f1, .int .i64 x.f2, .int .i64 x.f3]
theorem lit_C23 (xs : List S23) {w : World} {g t : Nat} {fr : Nat × Nat} (hl : xs.length ≤ 9223372036854775807) (hg : w.heap[g]? = some (.cells (xs.flatMap cS).toArray t fr)) : Kd.C k23 w (some ⟨g, 0, none⟩) xs.length xs := row_C (fun w x => k23_mk w x) xs hl hg
theorem lit_R23 (xs : List S23) (w : World) (base : Nat) (ok : Nat → Prop) (hb : base ≤ w.heap.size) (hok : ok w.heap.size) (hl : xs.length ≤ 100000) :
    Kd.R k23 23 (w.alloc (.cells (xs.flatMap cS).toArray 23)) base ok (.slice (some ⟨w.heap.size, 0, none⟩) xs.length xs.length) xs := row_R (fun w base ok x => k23_mkM w base ok x) xs w 23 base ok hb hok hl
theorem lit_C3 (l : List Int) {w : World} {g t : Nat} {fr : Nat × Nat} (hl : l.length ≤ 9223372036854775807) (hg : w.heap[g]? = some (.cells (l.map (Value.int .i64)).toArray t fr)) : Kd.C (Kd.int .i64) w (some ⟨g, 0, none⟩) l.length l := by
  have e : l.map (Value.int .i64) = l.flatMap fun x => [Value.int .i64 x] := by
    clear hl hg
    induction l with
    | nil => rfl
    | cons a t ih => simp_all
  rw [e] at hg
  exact row_C (d := Kd.int .i64) (f := fun x => [.int .i64 x]) (fun w x => rfl) l hl hg
theorem old {w : World} {k : Nat} {o x : Obj} (h : w.heap[k]? = some x) : (w.alloc o).heap[k]? = some x :=
  (heap_alloc_old w o (Array.getElem?_eq_some_iff.1 h).1).trans h
end Go.Proofs.Ytjobfnicnoffmaa.Li
