/- Layer 9: contracts of Lossless, of the program and of the reference, at every header. No conditions. -/
import Derived.Test.YtgflgeblimiocaaSt
import Derived.ChangeKeysEq
namespace Go.Proofs.Ytgflgeblimiocaa.St
open Go.RowKit Go.Proofs.Ytgflgeblimiocaa.PQuantSteps Go.Proofs.YtgflgeblimiocaaW.PrintWords Go.Proofs.YtgflgeblimiocaaW.PrintLast Go.Proofs.YtgflgeblimiocaaW.PrintMore Go.Proofs.Ytgflgeblimiocaa.Q

theorem info_of {P : Program} {e : TypeId} (h : (P.info? e).isSome = true) : ∃ i, P.info? e = some i := Option.isSome_iff_exists.1 h
theorem eqItems_cons {P : Program} {d : Nat} {e : TypeId} {c : Nat} {xs ys : Array Value} {i : Nat} {is : List Nat} {a b : Value} {r r' : Bool} {w : World} (h1 : (part e xs (i * c)).run P w = .ok a w) (h2 : (part e ys (i * c)).run P w = .ok b w)
    (h3 : (Op.equalIn d e a b).run P w = .ok r w) (h4 : (Op.eqItems d e c xs ys is).run P w = .ok r' w) : (Op.eqItems d e c xs ys (i :: is)).run P w = .ok (r && r') w := by
  simp only [Op.eqItems, Sem.run_bind, h1, h2, h3, Result.andThen_ok]
  cases r
  · simp
  · simpa using h4
theorem eqItems_nil {P : Program} {d : Nat} {e : TypeId} {c : Nat} {xs ys : Array Value} {w : World} : (Op.eqItems d e c xs ys []).run P w = .ok true w := by simp [Op.eqItems]
theorem under3 : Try.prog.underlying 3 = some (.int .i64) := by kernel_rfl
theorem part_int {xs : Array Value} {i : Nat} {k : Int} {w : World} (hx : xs[i]? = some (.int .i64 k)) : (part 3 xs i).run Try.prog w = .ok (.int .i64 k) w := by
  simp [part, hx, go_sem]
theorem eq_int (d : Nat) (a b : Int) (w : World) : (Op.equalIn (d + 1) 3 (.int .i64 a) (.int .i64 b)).run Try.prog w = .ok (a == b) w := run_equalIn_int w d 3 .i64 .i64 a b under3
/-- Two arrays of whole numbers, compared. -/
theorem eq5 (d0 d1 d2 d3 d4 e0 e1 e2 e3 e4 : Int) (w : World) : (Op.equalIn 10000 31 (.agg #[.int .i64 d0, .int .i64 d1, .int .i64 d2, .int .i64 d3, .int .i64 d4]) (.agg #[.int .i64 e0, .int .i64 e1, .int .i64 e2, .int .i64 e3, .int .i64 e4])).run Try.prog w = .ok (d0 == e0 && (d1 == e1 && (d2 == e2 && (d3 == e3 && (d4 == e4 && true))))) w := by
  obtain ⟨i, hi⟩ := info_of (P := Try.prog) (e := 3) (by kernel_rfl)
  have hu : Try.prog.underlying 31 = some (.array 5 3) := by kernel_rfl
  have hc : Try.prog.cellsOf 3 = 1 := by kernel_rfl
  rw [run_equalIn_array w 9999 _ _ hu hi, hc, show List.range 5 = [0, 1, 2, 3, 4] from rfl]
  refine eqItems_cons (part_int rfl) (part_int rfl) (eq_int 9998 _ _ _) ?_
  refine eqItems_cons (part_int rfl) (part_int rfl) (eq_int 9998 _ _ _) ?_
  refine eqItems_cons (part_int rfl) (part_int rfl) (eq_int 9998 _ _ _) ?_
  refine eqItems_cons (part_int rfl) (part_int rfl) (eq_int 9998 _ _ _) ?_
  refine eqItems_cons (part_int rfl) (part_int rfl) (eq_int 9998 _ _ _) ?_
  exact eqItems_nil
theorem eq2 (d : Nat) (d0 d1 e0 e1 : Int) (w : World) : (Op.equalIn (d + 2) 38 (.agg #[.int .i64 d0, .int .i64 d1]) (.agg #[.int .i64 e0, .int .i64 e1])).run Try.prog w = .ok (d0 == e0 && (d1 == e1 && true)) w := by
  obtain ⟨i, hi⟩ := info_of (P := Try.prog) (e := 3) (by kernel_rfl)
  have hu : Try.prog.underlying 38 = some (.array 2 3) := by kernel_rfl
  have hc : Try.prog.cellsOf 3 = 1 := by kernel_rfl
  rw [run_equalIn_array w (d + 1) _ _ hu hi, hc, show List.range 2 = [0, 1] from rfl]
  refine eqItems_cons (part_int rfl) (part_int rfl) (eq_int d _ _ _) ?_
  refine eqItems_cons (part_int rfl) (part_int rfl) (eq_int d _ _ _) ?_
  exact eqItems_nil
theorem under38 : Try.prog.underlying 38 = some (.array 2 3) := by kernel_rfl
theorem part_two {xs : Array Value} {i : Nat} {ys : Array Value} {w : World} (hx : xs.extract i (i + 2) = ys) : (part 38 xs i).run Try.prog w = .ok (.agg ys) w := by
  obtain ⟨j, hj⟩ := info_of (P := Try.prog) (e := 38) (by kernel_rfl)
  have hc : Try.prog.cellsOf 38 = 2 := by kernel_rfl
  have hs := run_sizeOf (P := Try.prog) w hj
  rw [hc] at hs
  simp [part, isAgg, run_underlying under38, hx, go_sem]
/-- Three pairs of whole numbers, compared. -/
theorem eq6 (a0 a1 a2 a3 a4 a5 b0 b1 b2 b3 b4 b5 : Int) (w : World) : (Op.equalIn 10000 39 (.agg #[.int .i64 a0, .int .i64 a1, .int .i64 a2, .int .i64 a3, .int .i64 a4, .int .i64 a5]) (.agg #[.int .i64 b0, .int .i64 b1, .int .i64 b2, .int .i64 b3, .int .i64 b4, .int .i64 b5])).run Try.prog w =
    .ok ((a0 == b0 && (a1 == b1 && true)) && ((a2 == b2 && (a3 == b3 && true)) && ((a4 == b4 && (a5 == b5 && true)) && true))) w := by
  obtain ⟨i, hi⟩ := info_of (P := Try.prog) (e := 38) (by kernel_rfl)
  have hu : Try.prog.underlying 39 = some (.array 3 38) := by kernel_rfl
  have hc : Try.prog.cellsOf 38 = 2 := by kernel_rfl
  rw [run_equalIn_array w 9999 _ _ hu hi, hc, show List.range 3 = [0, 1, 2] from rfl]
  refine eqItems_cons (part_two rfl) (part_two rfl) (eq2 9997 _ _ _ _ _) ?_
  refine eqItems_cons (part_two rfl) (part_two rfl) (eq2 9997 _ _ _ _ _) ?_
  refine eqItems_cons (part_two rfl) (part_two rfl) (eq2 9997 _ _ _ _ _) ?_
  exact eqItems_nil

def none5 (b d0 d1 d2 d3 d4 : Int) : Bool := b == 0 && (d0 == 0 && (d1 == 0 && (d2 == 0 && (d3 == 0 && (d4 == 0 && true)))))


set_option maxRecDepth 100000 in
theorem loss23 (c0 c1 c2 c3 c4 c5 c6 c7 c8 c15 c16 c17 c18 c19 c20 c21 c22 c23 c24 c25 c26 c27 c28 c29 : Value) (b d0 d1 d2 d3 d4 : Int) (w : World) : Calls Try.prog 23 #[.agg #[c0, c1, c2, c3, c4, c5, c6, c7, c8, .int .i64 b, .int .i64 d0, .int .i64 d1, .int .i64 d2, .int .i64 d3, .int .i64 d4, c15, c16, c17, c18, c19, c20, c21, c22, c23, c24, c25, c26, c27, c28, c29]] w fun e w' => e = .returned (.bool (none5 b d0 d1 d2 d3 d4)) ∧ Below w.heap.size w w' := by
  have he : ∀ w, _ := eq5 d0 d1 d2 d3 d4 0 0 0 0 0
  cases hb : b == 0 with
  | true =>
    have hp : none5 b d0 d1 d2 d3 d4 = (d0 == 0 && (d1 == 0 && (d2 == 0 && (d3 == 0 && (d4 == 0 && true))))) := by unfold none5; rw [hb]; rfl
    rw [hp]
    generalize (d0 == 0 && (d1 == 0 && (d2 == 0 && (d3 == 0 && (d4 == 0 && true))))) = r at *
    clear hp
    go_enter Try.func23, Try.ntmps23
    go_wp2
    go_ret
    exact ⟨rfl, below_alloc (Below.refl _ _) _⟩
  | false =>
    have hp : none5 b d0 d1 d2 d3 d4 = false := by unfold none5; rw [hb]; rfl
    rw [hp]
    clear hp he
    go_enter Try.func23, Try.ntmps23
    go_wp2
    go_ret
    exact ⟨rfl, below_alloc (Below.refl _ _) _⟩

set_option maxRecDepth 100000 in
theorem loss24 (c0 c1 c2 c3 c4 c5 c6 c7 c8 c15 c16 c17 c18 c19 c20 c21 c22 c23 c24 c25 c26 c27 c28 c29 : Value) (b d0 d1 d2 d3 d4 : Int) (w : World) : Calls Try.prog 24 #[.agg #[c0, c1, c2, c3, c4, c5, c6, c7, c8, .int .i64 b, .int .i64 d0, .int .i64 d1, .int .i64 d2, .int .i64 d3, .int .i64 d4, c15, c16, c17, c18, c19, c20, c21, c22, c23, c24, c25, c26, c27, c28, c29]] w fun e w' => e = .returned (.bool (none5 b d0 d1 d2 d3 d4)) ∧ Below w.heap.size w w' := by
  have he : ∀ w, _ := eq5 d0 d1 d2 d3 d4 0 0 0 0 0
  cases hb : b == 0 with
  | true =>
    have hp : none5 b d0 d1 d2 d3 d4 = (d0 == 0 && (d1 == 0 && (d2 == 0 && (d3 == 0 && (d4 == 0 && true))))) := by unfold none5; rw [hb]; rfl
    rw [hp]
    generalize (d0 == 0 && (d1 == 0 && (d2 == 0 && (d3 == 0 && (d4 == 0 && true))))) = r at *
    clear hp
    go_enter Try.func24, Try.ntmps24
    go_wp2
    go_ret
    exact ⟨rfl, below_alloc (Below.refl _ _) _⟩
  | false =>
    have hp : none5 b d0 d1 d2 d3 d4 = false := by unfold none5; rw [hb]; rfl
    rw [hp]
    clear hp he
    go_enter Try.func24, Try.ntmps24
    go_wp2
    go_ret
    exact ⟨rfl, below_alloc (Below.refl _ _) _⟩

end Go.Proofs.Ytgflgeblimiocaa.St
