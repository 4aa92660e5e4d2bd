/- Layer 9: the walk of QuantSteps: Dc, Ac, Steps and Lossless answer as the reference does, at all numbers and headers. No conditions. -/
import Derived.Test.YtgflgeblimiocaaLo
import Derived.Test.YtgflgeblimiocaaRs
import Derived.Test.YtgflgeblimiocaaWk
import Derived.Test.YtgflgeblimiocaaLow
namespace Go.Proofs.Ytgflgeblimiocaa.St
open Go.RowKit Go.Proofs.Ytgflgeblimiocaa.PQuantSteps Go.Proofs.YtgflgeblimiocaaW.PrintWords Go.Proofs.YtgflgeblimiocaaW.PrintLast Go.Proofs.YtgflgeblimiocaaW.PrintMore Go.Proofs.Ytgflgeblimiocaa.Q Go.Proofs.Ytgflgeblimiocaa.Low

theorem works_low (w : World) : Calls Try.prog 13 #[] w fun e w' => e = .returned (.bool true) ∧ Below w.heap.size w w' := (works_quiet w).mono fun _ _ ⟨he, hd⟩ => ⟨he, hd.below⟩
theorem six_form (b d0 d1 d2 d3 d4 : Int) : ∃ a0 a1 a2 a3 a4 a5 : Int, six b d0 d1 d2 d3 d4 = #[.int .i64 a0, .int .i64 a1, .int .i64 a2, .int .i64 a3, .int .i64 a4, .int .i64 a5] := by
  unfold six
  split
  · exact ⟨_, _, _, _, _, _, rfl⟩
  · exact ⟨0, 0, 0, 0, 0, 0, rfl⟩

set_option maxRecDepth 100000 in
set_option maxHeartbeats 4000000 in
theorem law_steps (x y : Int) (c0 c1 c2 c3 c4 c5 c6 c7 c8 c15 c16 c17 c18 c19 c20 c21 c22 c23 c24 c25 c26 c27 c28 c29 : Value) (b d0 d1 d2 d3 d4 : Int) (w : World) : Calls Try.prog 6 #[.int .i64 x, .int .i64 y, .agg #[c0, c1, c2, c3, c4, c5, c6, c7, c8, .int .i64 b, .int .i64 d0, .int .i64 d1, .int .i64 d2, .int .i64 d3, .int .i64 d4, c15, c16, c17, c18, c19, c20, c21, c22, c23, c24, c25, c26, c27, c28, c29]] w fun e w' => e = .returned (.bool true) ∧ Below w.heap.size w w' := by
  obtain ⟨a0, a1, a2, a3, a4, a5, h6⟩ := six_form b d0 d1 d2 d3 d4
  have S1 : ∀ w, _ := fun w => steps_any c0 c1 c2 c3 c4 c5 c6 c7 c8 c15 c16 c17 c18 c19 c20 c21 c22 c23 c24 c25 c26 c27 c28 c29 b d0 d1 d2 d3 d4 w
  have S2 : ∀ w, _ := fun w => rsteps_any c0 c1 c2 c3 c4 c5 c6 c7 c8 c15 c16 c17 c18 c19 c20 c21 c22 c23 c24 c25 c26 c27 c28 c29 b d0 d1 d2 d3 d4 w
  rw [h6] at S1 S2
  generalize err b d0 d1 d2 d3 d4 = er at S1 S2
  have L1 : ∀ w, _ := fun w => loss23 c0 c1 c2 c3 c4 c5 c6 c7 c8 c15 c16 c17 c18 c19 c20 c21 c22 c23 c24 c25 c26 c27 c28 c29 b d0 d1 d2 d3 d4 w
  have L2 : ∀ w, _ := fun w => loss24 c0 c1 c2 c3 c4 c5 c6 c7 c8 c15 c16 c17 c18 c19 c20 c21 c22 c23 c24 c25 c26 c27 c28 c29 b d0 d1 d2 d3 d4 w
  generalize none5 b d0 d1 d2 d3 d4 = ls at L1 L2
  have D1 : ∀ w, _ := fun w => Dc_any x y w
  have D2 : ∀ w, _ := fun w => rDc_any x y w
  have A1 : ∀ w, _ := fun w => Ac_any x y w
  have A2 : ∀ w, _ := fun w => rAc_any x y w
  generalize st1 x y 96 = u at D1 D2
  generalize st1 x y 48 = v at A1 A2
  generalize ste x y = q at *
  have T1 := Aside0.mk S1
  have T2 := Aside0.mk S2
  have M1 := Aside0.mk L1
  have M2 := Aside0.mk L2
  have E1 := Aside0.mk D1
  have E2 := Aside0.mk D2
  have F1 := Aside0.mk A1
  have F2 := Aside0.mk A2
  clear S1 S2 L1 L2 D1 D2 A1 A2 h6
  have he : ∀ w, _ := eq6 a0 a1 a2 a3 a4 a5 a0 a1 a2 a3 a4 a5
  simp only [beq_self_eq_true, Bool.and_self] at he
  go_enter Try.func6, Try.ntmps6
  go_wp2_with fail
  refine (E1.out _).mono ?_; rintro e w1 ⟨rfl, ⟨n1, rfl⟩⟩
  go_wp2_with fail
  refine (E2.out _).mono ?_; rintro e w1 ⟨rfl, ⟨n2, rfl⟩⟩
  go_wp2_with fail
  refine (F1.out _).mono ?_; rintro e w1 ⟨rfl, ⟨n3, rfl⟩⟩
  go_wp2_with fail
  refine (F2.out _).mono ?_; rintro e w1 ⟨rfl, ⟨n4, rfl⟩⟩
  go_wp2_with (with_reducible refine wpList_load_row rfl 36 (.tmp 5) rfl _ rfl 36 _ (0, 0) _ (heap_dn w _ _) Try.underlying36 rfl (by kernel_rfl) ?_)
  refine (T1.out _).mono ?_; rintro e w1 ⟨rfl, hb⟩
  have z1 : w.heap.size < w1.heap.size := by have := hb.size; simp at this; omega
  have g1 := Aside0.mk ((heap_alloc_old w1 (.cells #[.int .i64 a0, .int .i64 a1, .int .i64 a2, .int .i64 a3, .int .i64 a4, .int .i64 a5] 39) z1).trans ((hb.block w.heap.size (by simp)).trans (heap_dn w _ _)))
  have HB := Aside0.mk (below_step (pw_below_drewN (below_alloc (Below.refl w.heap.size w) _) _) hb)
  clear hb
  go_wp2_with (with_reducible refine wpList_load_row rfl 36 (.tmp 5) rfl _ rfl 36 _ (0, 0) _ g1.out Try.underlying36 rfl (by kernel_rfl) ?_)
  refine (T2.out _).mono ?_; rintro e w2 ⟨rfl, hb⟩
  have z2 : w1.heap.size < w2.heap.size := by have := hb.size; simp at this; omega
  have z3 : w.heap.size < w2.heap.size := by omega
  have g2 := Aside0.mk ((heap_alloc_old w2 (.cells #[.int .i64 a0, .int .i64 a1, .int .i64 a2, .int .i64 a3, .int .i64 a4, .int .i64 a5] 39) z3).trans ((hb.block w.heap.size (by simp; omega)).trans g1.out))
  have g3 := Aside0.mk ((heap_alloc_old w2 (.cells #[.int .i64 a0, .int .i64 a1, .int .i64 a2, .int .i64 a3, .int .i64 a4, .int .i64 a5] 39) z2).trans ((hb.block w1.heap.size (by simp)).trans (heap_alloc_new w1 _)))
  have HC := Aside0.mk (below_step (below_alloc HB.out _) hb)
  clear hb HB g1
  go_wp2_with fail
  refine wp_region_low (by kernel_rfl) (by kernel_rfl) ?_
  repeat (first
    | ((with_reducible refine lo_load rfl 36 (.tmp 5) rfl _ rfl 36 _ (0, 0) _ g2.out Try.underlying36 rfl (by kernel_rfl) ?_); simp only [Act.put, List.setIfInBounds_toArray, List.set_cons_succ, List.set_cons_zero])
    | ((with_reducible refine lo_load rfl 39 (.tmp 15) rfl _ rfl 39 _ (0, 0) _ g3.out Try.underlying39 rfl (by kernel_rfl) ?_); simp only [Act.put, List.setIfInBounds_toArray, List.set_cons_succ, List.set_cons_zero])
    | ((with_reducible refine lo_load rfl 39 (.tmp 17) rfl _ rfl 39 _ (0, 0) _ (heap_alloc_new w2 _) Try.underlying39 rfl (by kernel_rfl) ?_); simp only [Act.put, List.setIfInBounds_toArray, List.set_cons_succ, List.set_cons_zero])
    | go_big_quiet_step ((first | (go_at_call 23; exact lo_call (M1.out _)) | (go_at_call 24; exact lo_call (M2.out _)) | (go_at_call 13; exact lo_call (works_low _)))))
  refine wpQuiet_nil ?_
  rintro _ ⟨x, rfl⟩
  have HD := Aside0.mk (below_step (below_alloc HC.out _) x.property)
  go_wp2_with fail
  go_ret
  exact ⟨rfl, HD.out⟩
end Go.Proofs.Ytgflgeblimiocaa.St
