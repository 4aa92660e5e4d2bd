/- Layer 9: the contract of the reference's Steps, at every header. No conditions. -/
import Derived.Test.YtgflgeblimiocaaSt
import Derived.Deep.QuietTactic
import Derived.BigQuiet
namespace Go.Proofs.Ytgflgeblimiocaa.St
open Go.RowKit Go.Proofs.Ytgflgeblimiocaa.PQuantSteps Go.Proofs.YtgflgeblimiocaaW.PrintWords Go.Proofs.YtgflgeblimiocaaW.PrintLast Go.Proofs.YtgflgeblimiocaaW.PrintMore Go.Proofs.Ytgflgeblimiocaa.Q

/-- A quiet callee, met in a world that has drawn. -/
theorem quiet_any {P : Program} {f : FuncId} {args : Array Value} {w : World} {n : Nat} {v : Value}
    (c : ∀ W : World, Calls P f args W fun e w' => e = .returned v ∧ Drawn0 W w') : Calls P f args (w.drewN n) fun e w'' => e = .returned v ∧ ∃ m, w'' = w.drewN m :=
  Calls.quiet_of ((c _).mono fun _ _ ⟨he, hd⟩ => ⟨he, hd.out⟩)
theorem quiet_any2 {P : Program} {f : FuncId} {args : Array Value} {w : World} {a n : Nat} {v : Value}
    (c : ∀ W : World, Calls P f args W fun e w' => e = .returned v ∧ Drawn0 W w') : Calls P f args (w.drewN (a + n)) fun e w'' => e = .returned v ∧ ∃ m, w'' = w.drewN (a + m) :=
  (c _).mono fun _ _ ⟨he, hd⟩ => by
    obtain ⟨m, hm⟩ := hd.out
    exact ⟨he, n + m, by rw [hm, World.drewN_drewN, Nat.add_assoc]⟩
theorem may_ok (b d : Int) (h : okb b d = true) (W : World) : Calls Try.prog 32 #[.int .i64 b, .int .i64 d] W fun e w' => e = .returned (.bool true) ∧ Drawn0 W w' :=
  zoetroperef09_may.calls b d true W (by rw [may_eq, h])
theorem may_no (b d : Int) (h : okb b d = false) (W : World) : Calls Try.prog 32 #[.int .i64 b, .int .i64 d] W fun e w' => e = .returned (.bool false) ∧ Drawn0 W w' :=
  zoetroperef09_may.calls b d false W (by rw [may_eq, h])

set_option maxRecDepth 100000 in
set_option maxHeartbeats 4000000 in
theorem rsteps_0 (c0 c1 c2 c3 c4 c5 c6 c7 c8 c15 c16 c17 c18 c19 c20 c21 c22 c23 c24 c25 c26 c27 c28 c29 : Value) (b d0 d1 d2 d3 d4 : Int) (w : World) (h0 : okb b d0 = false) :
    Calls Try.prog 22 #[.agg #[c0, c1, c2, c3, c4, c5, c6, c7, c8, .int .i64 b, .int .i64 d0, .int .i64 d1, .int .i64 d2, .int .i64 d3, .int .i64 d4, c15, c16, c17, c18, c19, c20, c21, c22, c23, c24, c25, c26, c27, c28, c29]] w fun e w' => e = .returned (.tuple #[.agg #[.int .i64 0, .int .i64 0, .int .i64 0, .int .i64 0, .int .i64 0, .int .i64 0], .int .i64 2]) ∧ Below w.heap.size w w' := by
  have H0 := Aside0.mk h0
  clear h0
  go_enter Try.func22, Try.ntmps22
  go_wp2
  refine wp_loop_rounds 6 ?_
  rw [rounds_succ]
  go_wp2_with fail
  go_quiet ((first | exact quiet_any2 (may_no _ _ H0.out) | exact quiet_any (may_no _ _ H0.out)))
  go_wp2_with fail
  refine bodyPost_ret (v := .tuple #[.agg #[.int .i64 0, .int .i64 0, .int .i64 0, .int .i64 0, .int .i64 0, .int .i64 0], .int .i64 2]) ?_ rfl ⟨rfl, ?_⟩
  · rw [results_cell_tmp (p := 2) (u := 3) (ty := 39) (by kernel_rfl)]
    go_simp
  · repeat (with_reducible first | exact Below.refl _ _ | refine below_alloc ?_ _ | refine pw_below_drewN ?_ _ | refine Below.setCell ?_ (by dsimp only; omega) _)

set_option maxRecDepth 100000 in
set_option maxHeartbeats 4000000 in
theorem rsteps_1 (c0 c1 c2 c3 c4 c5 c6 c7 c8 c15 c16 c17 c18 c19 c20 c21 c22 c23 c24 c25 c26 c27 c28 c29 : Value) (b d0 d1 d2 d3 d4 : Int) (w : World) (h0 : okb b d0 = true) (h1 : okb b d1 = false) :
    Calls Try.prog 22 #[.agg #[c0, c1, c2, c3, c4, c5, c6, c7, c8, .int .i64 b, .int .i64 d0, .int .i64 d1, .int .i64 d2, .int .i64 d3, .int .i64 d4, c15, c16, c17, c18, c19, c20, c21, c22, c23, c24, c25, c26, c27, c28, c29]] w fun e w' => e = .returned (.tuple #[.agg #[.int .i64 0, .int .i64 0, .int .i64 0, .int .i64 0, .int .i64 0, .int .i64 0], .int .i64 2]) ∧ Below w.heap.size w w' := by
  have H0 := Aside0.mk h0
  have H1 := Aside0.mk h1
  clear h0 h1
  go_enter Try.func22, Try.ntmps22
  go_wp2
  refine wp_loop_rounds 6 ?_
  rw [rounds_succ]
  go_wp2_with fail
  go_quiet ((first | exact quiet_any2 (may_ok _ _ H0.out) | exact quiet_any (may_ok _ _ H0.out)))
  go_wp2_with fail
  rw [rounds_succ]
  go_wp2_with fail
  go_quiet ((first | exact quiet_any2 (may_no _ _ H1.out) | exact quiet_any (may_no _ _ H1.out)))
  go_wp2_with fail
  refine bodyPost_ret (v := .tuple #[.agg #[.int .i64 0, .int .i64 0, .int .i64 0, .int .i64 0, .int .i64 0, .int .i64 0], .int .i64 2]) ?_ rfl ⟨rfl, ?_⟩
  · rw [results_cell_tmp (p := 2) (u := 3) (ty := 39) (by kernel_rfl)]
    go_simp
  · repeat (with_reducible first | exact Below.refl _ _ | refine below_alloc ?_ _ | refine pw_below_drewN ?_ _ | refine Below.setCell ?_ (by dsimp only; omega) _)

set_option maxRecDepth 100000 in
set_option maxHeartbeats 4000000 in
theorem rsteps_2 (c0 c1 c2 c3 c4 c5 c6 c7 c8 c15 c16 c17 c18 c19 c20 c21 c22 c23 c24 c25 c26 c27 c28 c29 : Value) (b d0 d1 d2 d3 d4 : Int) (w : World) (h0 : okb b d0 = true) (h1 : okb b d1 = true) (h2 : okb b d2 = false) :
    Calls Try.prog 22 #[.agg #[c0, c1, c2, c3, c4, c5, c6, c7, c8, .int .i64 b, .int .i64 d0, .int .i64 d1, .int .i64 d2, .int .i64 d3, .int .i64 d4, c15, c16, c17, c18, c19, c20, c21, c22, c23, c24, c25, c26, c27, c28, c29]] w fun e w' => e = .returned (.tuple #[.agg #[.int .i64 0, .int .i64 0, .int .i64 0, .int .i64 0, .int .i64 0, .int .i64 0], .int .i64 2]) ∧ Below w.heap.size w w' := by
  have H0 := Aside0.mk h0
  have H1 := Aside0.mk h1
  have H2 := Aside0.mk h2
  clear h0 h1 h2
  go_enter Try.func22, Try.ntmps22
  go_wp2
  refine wp_loop_rounds 6 ?_
  rw [rounds_succ]
  go_wp2_with fail
  go_quiet ((first | exact quiet_any2 (may_ok _ _ H0.out) | exact quiet_any (may_ok _ _ H0.out)))
  go_wp2_with fail
  rw [rounds_succ]
  go_wp2_with fail
  go_quiet ((first | exact quiet_any2 (may_ok _ _ H1.out) | exact quiet_any (may_ok _ _ H1.out)))
  go_wp2_with fail
  rw [rounds_succ]
  go_wp2_with fail
  go_quiet ((first | exact quiet_any2 (may_no _ _ H2.out) | exact quiet_any (may_no _ _ H2.out)))
  go_wp2_with fail
  refine bodyPost_ret (v := .tuple #[.agg #[.int .i64 0, .int .i64 0, .int .i64 0, .int .i64 0, .int .i64 0, .int .i64 0], .int .i64 2]) ?_ rfl ⟨rfl, ?_⟩
  · rw [results_cell_tmp (p := 2) (u := 3) (ty := 39) (by kernel_rfl)]
    go_simp
  · repeat (with_reducible first | exact Below.refl _ _ | refine below_alloc ?_ _ | refine pw_below_drewN ?_ _ | refine Below.setCell ?_ (by dsimp only; omega) _)

set_option maxRecDepth 100000 in
set_option maxHeartbeats 4000000 in
theorem rsteps_3 (c0 c1 c2 c3 c4 c5 c6 c7 c8 c15 c16 c17 c18 c19 c20 c21 c22 c23 c24 c25 c26 c27 c28 c29 : Value) (b d0 d1 d2 d3 d4 : Int) (w : World) (h0 : okb b d0 = true) (h1 : okb b d1 = true) (h2 : okb b d2 = true) (h3 : okb b d3 = false) :
    Calls Try.prog 22 #[.agg #[c0, c1, c2, c3, c4, c5, c6, c7, c8, .int .i64 b, .int .i64 d0, .int .i64 d1, .int .i64 d2, .int .i64 d3, .int .i64 d4, c15, c16, c17, c18, c19, c20, c21, c22, c23, c24, c25, c26, c27, c28, c29]] w fun e w' => e = .returned (.tuple #[.agg #[.int .i64 0, .int .i64 0, .int .i64 0, .int .i64 0, .int .i64 0, .int .i64 0], .int .i64 2]) ∧ Below w.heap.size w w' := by
  have H0 := Aside0.mk h0
  have H1 := Aside0.mk h1
  have H2 := Aside0.mk h2
  have H3 := Aside0.mk h3
  clear h0 h1 h2 h3
  go_enter Try.func22, Try.ntmps22
  go_wp2
  refine wp_loop_rounds 6 ?_
  rw [rounds_succ]
  go_wp2_with fail
  go_quiet ((first | exact quiet_any2 (may_ok _ _ H0.out) | exact quiet_any (may_ok _ _ H0.out)))
  go_wp2_with fail
  rw [rounds_succ]
  go_wp2_with fail
  go_quiet ((first | exact quiet_any2 (may_ok _ _ H1.out) | exact quiet_any (may_ok _ _ H1.out)))
  go_wp2_with fail
  rw [rounds_succ]
  go_wp2_with fail
  go_quiet ((first | exact quiet_any2 (may_ok _ _ H2.out) | exact quiet_any (may_ok _ _ H2.out)))
  go_wp2_with fail
  rw [rounds_succ]
  go_wp2_with fail
  go_quiet ((first | exact quiet_any2 (may_no _ _ H3.out) | exact quiet_any (may_no _ _ H3.out)))
  go_wp2_with fail
  refine bodyPost_ret (v := .tuple #[.agg #[.int .i64 0, .int .i64 0, .int .i64 0, .int .i64 0, .int .i64 0, .int .i64 0], .int .i64 2]) ?_ rfl ⟨rfl, ?_⟩
  · rw [results_cell_tmp (p := 2) (u := 3) (ty := 39) (by kernel_rfl)]
    go_simp
  · repeat (with_reducible first | exact Below.refl _ _ | refine below_alloc ?_ _ | refine pw_below_drewN ?_ _ | refine Below.setCell ?_ (by dsimp only; omega) _)

set_option maxRecDepth 100000 in
set_option maxHeartbeats 4000000 in
theorem rsteps_4 (c0 c1 c2 c3 c4 c5 c6 c7 c8 c15 c16 c17 c18 c19 c20 c21 c22 c23 c24 c25 c26 c27 c28 c29 : Value) (b d0 d1 d2 d3 d4 : Int) (w : World) (h0 : okb b d0 = true) (h1 : okb b d1 = true) (h2 : okb b d2 = true) (h3 : okb b d3 = true) (h4 : okb b d4 = false) :
    Calls Try.prog 22 #[.agg #[c0, c1, c2, c3, c4, c5, c6, c7, c8, .int .i64 b, .int .i64 d0, .int .i64 d1, .int .i64 d2, .int .i64 d3, .int .i64 d4, c15, c16, c17, c18, c19, c20, c21, c22, c23, c24, c25, c26, c27, c28, c29]] w fun e w' => e = .returned (.tuple #[.agg #[.int .i64 0, .int .i64 0, .int .i64 0, .int .i64 0, .int .i64 0, .int .i64 0], .int .i64 2]) ∧ Below w.heap.size w w' := by
  have H0 := Aside0.mk h0
  have H1 := Aside0.mk h1
  have H2 := Aside0.mk h2
  have H3 := Aside0.mk h3
  have H4 := Aside0.mk h4
  clear h0 h1 h2 h3 h4
  go_enter Try.func22, Try.ntmps22
  go_wp2
  refine wp_loop_rounds 6 ?_
  rw [rounds_succ]
  go_wp2_with fail
  go_quiet ((first | exact quiet_any2 (may_ok _ _ H0.out) | exact quiet_any (may_ok _ _ H0.out)))
  go_wp2_with fail
  rw [rounds_succ]
  go_wp2_with fail
  go_quiet ((first | exact quiet_any2 (may_ok _ _ H1.out) | exact quiet_any (may_ok _ _ H1.out)))
  go_wp2_with fail
  rw [rounds_succ]
  go_wp2_with fail
  go_quiet ((first | exact quiet_any2 (may_ok _ _ H2.out) | exact quiet_any (may_ok _ _ H2.out)))
  go_wp2_with fail
  rw [rounds_succ]
  go_wp2_with fail
  go_quiet ((first | exact quiet_any2 (may_ok _ _ H3.out) | exact quiet_any (may_ok _ _ H3.out)))
  go_wp2_with fail
  rw [rounds_succ]
  go_wp2_with fail
  go_quiet ((first | exact quiet_any2 (may_no _ _ H4.out) | exact quiet_any (may_no _ _ H4.out)))
  go_wp2_with fail
  refine bodyPost_ret (v := .tuple #[.agg #[.int .i64 0, .int .i64 0, .int .i64 0, .int .i64 0, .int .i64 0, .int .i64 0], .int .i64 2]) ?_ rfl ⟨rfl, ?_⟩
  · rw [results_cell_tmp (p := 2) (u := 3) (ty := 39) (by kernel_rfl)]
    go_simp
  · repeat (with_reducible first | exact Below.refl _ _ | refine below_alloc ?_ _ | refine pw_below_drewN ?_ _ | refine Below.setCell ?_ (by dsimp only; omega) _)

set_option maxRecDepth 100000 in
set_option maxHeartbeats 4000000 in
theorem rsteps_ok (c0 c1 c2 c3 c4 c5 c6 c7 c8 c15 c16 c17 c18 c19 c20 c21 c22 c23 c24 c25 c26 c27 c28 c29 : Value) (b d0 d1 d2 d3 d4 : Int) (w : World) (h0 : okb b d0 = true) (h1 : okb b d1 = true) (h2 : okb b d2 = true) (h3 : okb b d3 = true) (h4 : okb b d4 = true) (h00 : okb b 0 = true) :
    Calls Try.prog 22 #[.agg #[c0, c1, c2, c3, c4, c5, c6, c7, c8, .int .i64 b, .int .i64 d0, .int .i64 d1, .int .i64 d2, .int .i64 d3, .int .i64 d4, c15, c16, c17, c18, c19, c20, c21, c22, c23, c24, c25, c26, c27, c28, c29]] w fun e w' => e = .returned (.tuple #[.agg #[.int .i64 (stp b d0 96), .int .i64 (stp b 0 48), .int .i64 (stp b d1 96), .int .i64 (stp b d2 48), .int .i64 (stp b d3 96), .int .i64 (stp b d4 48)], .int .i64 0]) ∧ Below w.heap.size w w' := by
  have H0 := Aside0.mk h0
  have H1 := Aside0.mk h1
  have H2 := Aside0.mk h2
  have H3 := Aside0.mk h3
  have H4 := Aside0.mk h4
  have H00 := Aside0.mk h00
  clear h0 h1 h2 h3 h4 h00
  go_enter Try.func22, Try.ntmps22
  go_wp2
  refine wp_loop_rounds 6 ?_
  rw [rounds_succ]
  go_wp2_with fail
  go_quiet ((first | exact quiet_any2 (may_ok _ _ H0.out) | exact quiet_any (may_ok _ _ H0.out)))
  go_wp2_with fail
  rw [rounds_succ]
  go_wp2_with fail
  go_quiet ((first | exact quiet_any2 (may_ok _ _ H1.out) | exact quiet_any (may_ok _ _ H1.out)))
  go_wp2_with fail
  rw [rounds_succ]
  go_wp2_with fail
  go_quiet ((first | exact quiet_any2 (may_ok _ _ H2.out) | exact quiet_any (may_ok _ _ H2.out)))
  go_wp2_with fail
  rw [rounds_succ]
  go_wp2_with fail
  go_quiet ((first | exact quiet_any2 (may_ok _ _ H3.out) | exact quiet_any (may_ok _ _ H3.out)))
  go_wp2_with fail
  rw [rounds_succ]
  go_wp2_with fail
  go_quiet ((first | exact quiet_any2 (may_ok _ _ H4.out) | exact quiet_any (may_ok _ _ H4.out)))
  go_wp2_with fail
  rw [rounds_succ]
  go_wp2_with fail
  refine wp_loop_rounds 4 ?_
  rw [rounds_succ]
  go_wp2_with fail
  go_quiet ((first | exact quiet_any2 (rDc_ok _ _ H0.out) | exact quiet_any (rDc_ok _ _ H0.out)))
  go_wp2_with fail
  go_quiet ((first | exact quiet_any2 (rAc_ok _ _ H00.out) | exact quiet_any (rAc_ok _ _ H00.out)))
  go_wp2_with fail
  rw [rounds_succ]
  go_wp2_with fail
  go_quiet ((first | exact quiet_any2 (rDc_ok _ _ H1.out) | exact quiet_any (rDc_ok _ _ H1.out)))
  go_wp2_with fail
  go_quiet ((first | exact quiet_any2 (rAc_ok _ _ H2.out) | exact quiet_any (rAc_ok _ _ H2.out)))
  go_wp2_with fail
  rw [rounds_succ]
  go_wp2_with fail
  go_quiet ((first | exact quiet_any2 (rDc_ok _ _ H3.out) | exact quiet_any (rDc_ok _ _ H3.out)))
  go_wp2_with fail
  go_quiet ((first | exact quiet_any2 (rAc_ok _ _ H4.out) | exact quiet_any (rAc_ok _ _ H4.out)))
  go_wp2_with fail
  rw [rounds_succ]
  go_wp2_with fail
  refine bodyPost_ret (v := .tuple #[.agg #[.int .i64 (stp b d0 96), .int .i64 (stp b 0 48), .int .i64 (stp b d1 96), .int .i64 (stp b d2 48), .int .i64 (stp b d3 96), .int .i64 (stp b d4 48)], .int .i64 0]) ?_ rfl ⟨rfl, ?_⟩
  · rw [results_cell_tmp (p := 2) (u := 3) (ty := 39) (by kernel_rfl)]
    go_simp
  · repeat (with_reducible first | exact Below.refl _ _ | refine below_alloc ?_ _ | refine pw_below_drewN ?_ _ | refine Below.setCell ?_ (by dsimp only; omega) _)

theorem rsteps_any (c0 c1 c2 c3 c4 c5 c6 c7 c8 c15 c16 c17 c18 c19 c20 c21 c22 c23 c24 c25 c26 c27 c28 c29 : Value) (b d0 d1 d2 d3 d4 : Int) (w : World) : Calls Try.prog 22 #[.agg #[c0, c1, c2, c3, c4, c5, c6, c7, c8, .int .i64 b, .int .i64 d0, .int .i64 d1, .int .i64 d2, .int .i64 d3, .int .i64 d4, c15, c16, c17, c18, c19, c20, c21, c22, c23, c24, c25, c26, c27, c28, c29]] w fun e w' => e = .returned (.tuple #[.agg (six b d0 d1 d2 d3 d4), .int .i64 (err b d0 d1 d2 d3 d4)]) ∧ Below w.heap.size w w' := by
  cases h0 : okb b d0 with
  | false =>
    obtain ⟨e1, e2⟩ := six_bad (d1 := d1) (d2 := d2) (d3 := d3) (d4 := d4) (show okAll b d0 d1 d2 d3 d4 = false by simp [okAll, h0])
    rw [e1, e2]; exact rsteps_0 c0 c1 c2 c3 c4 c5 c6 c7 c8 c15 c16 c17 c18 c19 c20 c21 c22 c23 c24 c25 c26 c27 c28 c29 b d0 d1 d2 d3 d4 w h0
  | true =>
  have h00 := okb_zero h0
  cases h1 : okb b d1 with
  | false =>
    obtain ⟨e1, e2⟩ := six_bad (d0 := d0) (d2 := d2) (d3 := d3) (d4 := d4) (show okAll b d0 d1 d2 d3 d4 = false by simp [okAll, h1])
    rw [e1, e2]; exact rsteps_1 c0 c1 c2 c3 c4 c5 c6 c7 c8 c15 c16 c17 c18 c19 c20 c21 c22 c23 c24 c25 c26 c27 c28 c29 b d0 d1 d2 d3 d4 w h0 h1
  | true =>
  cases h2 : okb b d2 with
  | false =>
    obtain ⟨e1, e2⟩ := six_bad (d0 := d0) (d1 := d1) (d3 := d3) (d4 := d4) (show okAll b d0 d1 d2 d3 d4 = false by simp [okAll, h2])
    rw [e1, e2]; exact rsteps_2 c0 c1 c2 c3 c4 c5 c6 c7 c8 c15 c16 c17 c18 c19 c20 c21 c22 c23 c24 c25 c26 c27 c28 c29 b d0 d1 d2 d3 d4 w h0 h1 h2
  | true =>
  cases h3 : okb b d3 with
  | false =>
    obtain ⟨e1, e2⟩ := six_bad (d0 := d0) (d1 := d1) (d2 := d2) (d4 := d4) (show okAll b d0 d1 d2 d3 d4 = false by simp [okAll, h3])
    rw [e1, e2]; exact rsteps_3 c0 c1 c2 c3 c4 c5 c6 c7 c8 c15 c16 c17 c18 c19 c20 c21 c22 c23 c24 c25 c26 c27 c28 c29 b d0 d1 d2 d3 d4 w h0 h1 h2 h3
  | true =>
  cases h4 : okb b d4 with
  | false =>
    obtain ⟨e1, e2⟩ := six_bad (d0 := d0) (d1 := d1) (d2 := d2) (d3 := d3) (show okAll b d0 d1 d2 d3 d4 = false by simp [okAll, h4])
    rw [e1, e2]; exact rsteps_4 c0 c1 c2 c3 c4 c5 c6 c7 c8 c15 c16 c17 c18 c19 c20 c21 c22 c23 c24 c25 c26 c27 c28 c29 b d0 d1 d2 d3 d4 w h0 h1 h2 h3 h4
  | true =>
    obtain ⟨e1, e2⟩ := six_good (show okAll b d0 d1 d2 d3 d4 = true by simp [okAll, h0, h1, h2, h3, h4])
    rw [e1, e2]; exact rsteps_ok c0 c1 c2 c3 c4 c5 c6 c7 c8 c15 c16 c17 c18 c19 c20 c21 c22 c23 c24 c25 c26 c27 c28 c29 b d0 d1 d2 d3 d4 w h0 h1 h2 h3 h4 h00

end Go.Proofs.Ytgflgeblimiocaa.St
