/- The steps of layer 9: contracts of Dc, Ac, Steps and Lossless, of the program and of the reference, at every header. No conditions. -/
import Derived.Test.YtgflgeblimiocaaPQuantStepsx2
import Derived.Test.YtgflgeblimiocaaQN
import Derived.Outline
namespace Go.Proofs.Ytgflgeblimiocaa.St
open Go.RowKit Go.Proofs.Ytgflgeblimiocaa.PQuantSteps Go.Proofs.YtgflgeblimiocaaW.PrintWords Go.Proofs.YtgflgeblimiocaaW.PrintLast Go.Proofs.YtgflgeblimiocaaW.PrintMore Go.Proofs.Ytgflgeblimiocaa.Q

/-- May a base and a delta be? -/
def okb (b d : Int) : Bool := decide (0 ≤ b ∧ b ≤ 255 ∧ -31 ≤ d ∧ d ≤ 31)
/-- The step. -/
def stp (b d p : Int) : Int := 4 + cl (b + d) 0 255 + cl (b + d) 0 255 * cl (b + d) 0 255 / p
def st1 (b d p : Int) : Int := if okb b d then stp b d p else 0
def ste (b d : Int) : Int := if okb b d then 0 else 2
theorem okb_iff {b d : Int} : okb b d = true ↔ (0 ≤ b ∧ b ≤ 255 ∧ -31 ≤ d ∧ d ≤ 31) := by simp [okb]
theorem cl_in (v : Int) : 0 ≤ cl v 0 255 ∧ cl v 0 255 ≤ 255 := by unfold cl; split <;> (try split) <;> omega
theorem cl_mx (v : Int) : mn (mx v 0) 255 = cl v 0 255 := by unfold mn mx cl; split <;> split <;> (try split) <;> omega
theorem sq_le {q : Int} (h0 : 0 ≤ q) (h1 : q ≤ 255) : 0 ≤ q * q ∧ q * q ≤ 65025 :=
  ⟨Int.mul_nonneg h0 h0, Int.le_trans (Int.mul_le_mul h1 h1 h0 (by omega)) (by omega)⟩
theorem step_code {q p : Int} (h0 : 0 ≤ q) (h1 : q ≤ 255) (hp : 1 ≤ p) : wrap64 ((wrap64 (4 + q)) + (wrap64 (Int.tdiv (wrap64 (q * q)) p))) = 4 + q + q * q / p := by
  have hq := sq_le h0 h1
  rw [w64 (n := q * q) (by omega) (by omega), Int.tdiv_eq_ediv_of_nonneg hq.1]
  have := div_le hq.1 hp
  rw [w64 (n := 4 + q) (by omega) (by omega), w64 (n := q * q / p) (by omega) (by omega), w64 (by omega) (by omega)]
theorem stp_in {b d p : Int} (hp : 1 ≤ p) : 4 ≤ stp b d p ∧ stp b d p ≤ 65284 := by
  have h := cl_in (b + d)
  have hq := sq_le h.1 h.2
  have := div_le hq.1 hp
  unfold stp; omega
theorem index_eq (b d : Int) : quant_index.f b d = some (if okb b d then cl (b + d) 0 255 else 0, okb b d) := by
  unfold quant_index.f
  cases h : okb b d with
  | true =>
    have := okb_iff.1 h
    rw [if_neg (by omega), if_neg (by omega), if_neg (by omega), if_neg (by omega), w64 (by omega) (by omega), cl_mx]; rfl
  | false =>
    have h' : ¬ (0 ≤ b ∧ b ≤ 255 ∧ -31 ≤ d ∧ d ≤ 31) := fun g => by rw [okb_iff.2 g] at h; cases h
    repeat' split
    all_goals first | rfl | omega | contradiction
theorem step_eq (b d p : Int) (hp : 1 ≤ p) : quant_step.f b d p = some (st1 b d p, ste b d) := by
  unfold quant_step.f st1 ste
  rw [index_eq]; simp only [Option.bind_some]
  cases h : okb b d with
  | true =>
    simp only [if_true]
    rw [if_neg (by omega), step_code (cl_in _).1 (cl_in _).2 hp]; rfl
  | false => simp
theorem may_eq (b d : Int) : zoetroperef09_may.f b d = some (okb b d) := by
  unfold zoetroperef09_may.f okb
  repeat' split
  all_goals (congr 1; rw [Bool.eq_iff_iff]; simp only [decide_eq_true_eq, Bool.false_eq_true, false_iff]; omega)
theorem clip_eq (v : Int) : zoetroperef00_Clip.f v 0 255 = some (cl v 0 255) := by
  unfold zoetroperef00_Clip.f cl
  repeat' split
  all_goals rfl
theorem Dc_eq (b d : Int) : quant_Dc.f b d = some (st1 b d 96, ste b d) := by unfold quant_Dc.f; rw [step_eq _ _ _ (by omega)]; rfl
theorem rDc_eq (b d : Int) : zoetroperef09_Dc.f b d = some (st1 b d 96, ste b d) := by
  unfold zoetroperef09_Dc.f st1 ste
  rw [may_eq]; simp only [Option.bind_some]
  cases h : okb b d with
  | true =>
    have := okb_iff.1 h
    rw [w64 (n := b + d) (by omega) (by omega), clip_eq]; simp only [Option.bind_some, if_true]
    rw [step_code (cl_in _).1 (cl_in _).2 (by omega)]; rfl
  | false => simp
theorem Ac_eq (b d : Int) : quant_Ac.f b d = some (st1 b d 48, ste b d) := by unfold quant_Ac.f; rw [step_eq _ _ _ (by omega)]; rfl
theorem rAc_eq (b d : Int) : zoetroperef09_Ac.f b d = some (st1 b d 48, ste b d) := by
  unfold zoetroperef09_Ac.f st1 ste
  rw [may_eq]; simp only [Option.bind_some]
  cases h : okb b d with
  | true =>
    have := okb_iff.1 h
    rw [w64 (n := b + d) (by omega) (by omega), clip_eq]; simp only [Option.bind_some, if_true]
    rw [step_code (cl_in _).1 (cl_in _).2 (by omega)]; rfl
  | false => simp
attribute [local go_sem] max2_int min2_int max_two min_two
theorem index_drawn (b d : Int) (w : World) : Calls Try.prog 34 #[.int .i64 b, .int .i64 d] w fun e w' => e = .returned (.tuple #[.int .i64 (if okb b d then cl (b + d) 0 255 else 0), .bool (okb b d)]) ∧ Drawn0 w w' := by
  cases h : okb b d with
  | true =>
    have g := okb_iff.1 h
    have g1 : 0 ≤ b := by omega
    have g2 : b ≤ 255 := by omega
    have g3 : -31 ≤ d := by omega
    have g4 : d ≤ 31 := by omega
    have C := Aside0.mk (cl_mx (b + d))
    simp only [if_true]
    rw [← C.out]
    unfold mn mx
    clear g h
    go_enter Try.func34, Try.ntmps34
    go_wp2
    all_goals
      go_ret2
      exact ⟨rfl, Drawn0.refl _⟩
  | false =>
    have g : b < 0 ∨ (0 ≤ b ∧ 255 < b) ∨ (0 ≤ b ∧ b ≤ 255 ∧ d < -31) ∨ (0 ≤ b ∧ b ≤ 255 ∧ -31 ≤ d ∧ 31 < d) := by
      have h' : ¬ (0 ≤ b ∧ b ≤ 255 ∧ -31 ≤ d ∧ d ≤ 31) := fun g => by rw [okb_iff.2 g] at h; cases h
      omega
    clear h
    simp only [Bool.false_eq_true, if_false]
    rcases g with g | ⟨g0, g⟩ | ⟨g0, g1, g⟩ | ⟨g0, g1, g2, g⟩
    all_goals
      go_enter Try.func34, Try.ntmps34
      go_wp2
      go_ret2
      exact ⟨rfl, Drawn0.refl _⟩
theorem step_drawn (b d p : Int) (w : World) (hp : 1 ≤ p) : Calls Try.prog 31 #[.int .i64 b, .int .i64 d, .int .i64 p] w fun e w' => e = .returned (.tuple #[.int .i64 (st1 b d p), .int .i64 (ste b d)]) ∧ Drawn0 w w' := by
  have A0 := index_drawn b d
  have S := Aside0.mk (step_code (p := p) (cl_in (b + d)).1 (cl_in (b + d)).2 hp)
  unfold st1 ste stp
  cases h : okb b d with
  | true =>
    rw [h] at A0
    simp only [if_true] at A0 ⊢
    have A := Aside0.mk A0
    clear A0
    have h0 : ¬ p = 0 := by omega
    clear h
    generalize cl (b + d) 0 255 = q at *
    rw [← S.out]
    have hz : (p == 0) = false := beq_eq_false_iff_ne.mpr h0
    clear S
    go_enter Try.func31, Try.ntmps31
    go_wp2_with (go_at_call 34; refine (A.out _).mono ?_; rintro e w1 ⟨rfl, hd⟩; have HD := Aside0.mk hd; clear hd)
    go_ret2
    exact ⟨rfl, HD.out⟩
  | false =>
    rw [h] at A0
    simp only [Bool.false_eq_true, if_false] at A0 ⊢
    have A := Aside0.mk A0
    clear A0
    clear h S hp
    go_enter Try.func31, Try.ntmps31
    go_wp2_with (go_at_call 34; refine (A.out _).mono ?_; rintro e w1 ⟨rfl, hd⟩; have HD := Aside0.mk hd; clear hd)
    go_ret2
    exact ⟨rfl, HD.out⟩
theorem Dc_any (b d : Int) (w : World) : Calls Try.prog 17 #[.int .i64 b, .int .i64 d] w fun e w' => e = .returned (.tuple #[.int .i64 (st1 b d 96), .int .i64 (ste b d)]) ∧ Drawn0 w w' := by
  have A := Aside0.mk (step_eq b d 96 (by omega))
  go_enter Try.func17, Try.ntmps17
  go_wp2_with (go_at_call 31; refine (step_drawn b d 96 _ (by omega)).mono ?_; rintro e w1 ⟨rfl, hd⟩; have HD := Aside0.mk hd; clear hd)
  go_ret2
  exact ⟨rfl, HD.out⟩
theorem rDc_any (b d : Int) (w : World) : Calls Try.prog 18 #[.int .i64 b, .int .i64 d] w fun e w' => e = .returned (.tuple #[.int .i64 (st1 b d 96), .int .i64 (ste b d)]) ∧ Drawn0 w w' :=
  zoetroperef09_Dc.calls b d _ _ w (rDc_eq b d)
theorem Ac_any (b d : Int) (w : World) : Calls Try.prog 19 #[.int .i64 b, .int .i64 d] w fun e w' => e = .returned (.tuple #[.int .i64 (st1 b d 48), .int .i64 (ste b d)]) ∧ Drawn0 w w' := by
  have A := Aside0.mk (step_eq b d 48 (by omega))
  go_enter Try.func19, Try.ntmps19
  go_wp2_with (go_at_call 31; refine (step_drawn b d 48 _ (by omega)).mono ?_; rintro e w1 ⟨rfl, hd⟩; have HD := Aside0.mk hd; clear hd)
  go_ret2
  exact ⟨rfl, HD.out⟩
theorem rAc_any (b d : Int) (w : World) : Calls Try.prog 20 #[.int .i64 b, .int .i64 d] w fun e w' => e = .returned (.tuple #[.int .i64 (st1 b d 48), .int .i64 (ste b d)]) ∧ Drawn0 w w' :=
  zoetroperef09_Ac.calls b d _ _ w (rAc_eq b d)
theorem Dc_ok (b d : Int) (h : okb b d = true) (w : World) : Calls Try.prog 17 #[.int .i64 b, .int .i64 d] w fun e w' => e = .returned (.tuple #[.int .i64 (stp b d 96), .int .i64 0]) ∧ Drawn0 w w' := by
  have := Dc_any b d w
  unfold st1 ste at this; rw [h] at this; exact this
theorem Dc_no (b d : Int) (h : okb b d = false) (w : World) : Calls Try.prog 17 #[.int .i64 b, .int .i64 d] w fun e w' => e = .returned (.tuple #[.int .i64 0, .int .i64 2]) ∧ Drawn0 w w' := by
  have := Dc_any b d w
  unfold st1 ste at this; rw [h] at this; exact this
theorem Ac_ok (b d : Int) (h : okb b d = true) (w : World) : Calls Try.prog 19 #[.int .i64 b, .int .i64 d] w fun e w' => e = .returned (.tuple #[.int .i64 (stp b d 48), .int .i64 0]) ∧ Drawn0 w w' := by
  have := Ac_any b d w
  unfold st1 ste at this; rw [h] at this; exact this
theorem Ac_no (b d : Int) (h : okb b d = false) (w : World) : Calls Try.prog 19 #[.int .i64 b, .int .i64 d] w fun e w' => e = .returned (.tuple #[.int .i64 0, .int .i64 2]) ∧ Drawn0 w w' := by
  have := Ac_any b d w
  unfold st1 ste at this; rw [h] at this; exact this
theorem rDc_ok (b d : Int) (h : okb b d = true) (w : World) : Calls Try.prog 18 #[.int .i64 b, .int .i64 d] w fun e w' => e = .returned (.tuple #[.int .i64 (stp b d 96), .int .i64 0]) ∧ Drawn0 w w' := by
  have := rDc_any b d w
  unfold st1 ste at this; rw [h] at this; exact this
theorem rDc_no (b d : Int) (h : okb b d = false) (w : World) : Calls Try.prog 18 #[.int .i64 b, .int .i64 d] w fun e w' => e = .returned (.tuple #[.int .i64 0, .int .i64 2]) ∧ Drawn0 w w' := by
  have := rDc_any b d w
  unfold st1 ste at this; rw [h] at this; exact this
theorem rAc_ok (b d : Int) (h : okb b d = true) (w : World) : Calls Try.prog 20 #[.int .i64 b, .int .i64 d] w fun e w' => e = .returned (.tuple #[.int .i64 (stp b d 48), .int .i64 0]) ∧ Drawn0 w w' := by
  have := rAc_any b d w
  unfold st1 ste at this; rw [h] at this; exact this
theorem rAc_no (b d : Int) (h : okb b d = false) (w : World) : Calls Try.prog 20 #[.int .i64 b, .int .i64 d] w fun e w' => e = .returned (.tuple #[.int .i64 0, .int .i64 2]) ∧ Drawn0 w w' := by
  have := rAc_any b d w
  unfold st1 ste at this; rw [h] at this; exact this

def okAll (b d0 d1 d2 d3 d4 : Int) : Bool := okb b d0 && okb b d1 && okb b d2 && okb b d3 && okb b d4
def six (b d0 d1 d2 d3 d4 : Int) : Array Value := if okAll b d0 d1 d2 d3 d4 then #[.int .i64 (stp b d0 96), .int .i64 (stp b 0 48), .int .i64 (stp b d1 96), .int .i64 (stp b d2 48), .int .i64 (stp b d3 96), .int .i64 (stp b d4 48)] else #[.int .i64 0, .int .i64 0, .int .i64 0, .int .i64 0, .int .i64 0, .int .i64 0]
def err (b d0 d1 d2 d3 d4 : Int) : Int := if okAll b d0 d1 d2 d3 d4 then 0 else 2

set_option maxRecDepth 100000 in
set_option maxHeartbeats 2000000 in
theorem steps_ok (c0 c1 c2 c3 c4 c5 c6 c7 c8 c15 c16 c17 c18 c19 c20 c21 c22 c23 c24 c25 c26 c27 c28 c29 : Value) (b d0 d1 d2 d3 d4 : Int) (w : World) (h0 : okb b d0 = true) (h00 : okb b 0 = true) (h1 : okb b d1 = true) (h2 : okb b d2 = true) (h3 : okb b d3 = true) (h4 : okb b d4 = true) :
    Calls Try.prog 21 #[.agg #[c0, c1, c2, c3, c4, c5, c6, c7, c8, .int .i64 b, .int .i64 d0, .int .i64 d1, .int .i64 d2, .int .i64 d3, .int .i64 d4, c15, c16, c17, c18, c19, c20, c21, c22, c23, c24, c25, c26, c27, c28, c29]] w fun e w' => e = .returned (.tuple #[.agg #[.int .i64 (stp b d0 96), .int .i64 (stp b 0 48), .int .i64 (stp b d1 96), .int .i64 (stp b d2 48), .int .i64 (stp b d3 96), .int .i64 (stp b d4 48)], .int .i64 0]) ∧ Below w.heap.size w w' := by
  have H0 := Aside0.mk h0
  have H00 := Aside0.mk h00
  have H1 := Aside0.mk h1
  have H2 := Aside0.mk h2
  have H3 := Aside0.mk h3
  have H4 := Aside0.mk h4
  clear h0 h00 h1 h2 h3 h4
  have i0 : ∀ w, (Instr.index 39 (.agg #[.int .i64 d0, .int .i64 0, .int .i64 d1, .int .i64 d2, .int .i64 d3, .int .i64 d4]) (.int .i64 0)).run Try.prog w = .ok (.agg #[.int .i64 d0, .int .i64 0]) w := fun _ => by kernel_rfl
  have i1 : ∀ w, (Instr.index 39 (.agg #[.int .i64 d0, .int .i64 0, .int .i64 d1, .int .i64 d2, .int .i64 d3, .int .i64 d4]) (.int .i64 1)).run Try.prog w = .ok (.agg #[.int .i64 d1, .int .i64 d2]) w := fun _ => by kernel_rfl
  have i2 : ∀ w, (Instr.index 39 (.agg #[.int .i64 d0, .int .i64 0, .int .i64 d1, .int .i64 d2, .int .i64 d3, .int .i64 d4]) (.int .i64 2)).run Try.prog w = .ok (.agg #[.int .i64 d3, .int .i64 d4]) w := fun _ => by kernel_rfl
  go_enter Try.func21, Try.ntmps21
  go_wp2
  refine wp_loop_rounds 4 ?_
  rw [rounds_succ]
  go_wp2_with fail
  refine (Dc_ok _ _ H0.out _).mono ?_; rintro e w1 ⟨rfl, ⟨m0, rfl⟩⟩
  go_wp2_with fail
  refine (Ac_ok _ _ H00.out _).mono ?_; rintro e w1 ⟨rfl, ⟨m1, rfl⟩⟩
  go_wp2_with fail
  rw [rounds_succ]
  go_wp2_with fail
  refine (Dc_ok _ _ H1.out _).mono ?_; rintro e w1 ⟨rfl, ⟨m2, rfl⟩⟩
  go_wp2_with fail
  refine (Ac_ok _ _ H2.out _).mono ?_; rintro e w1 ⟨rfl, ⟨m3, rfl⟩⟩
  go_wp2_with fail
  rw [rounds_succ]
  go_wp2_with fail
  refine (Dc_ok _ _ H3.out _).mono ?_; rintro e w1 ⟨rfl, ⟨m4, rfl⟩⟩
  go_wp2_with fail
  refine (Ac_ok _ _ H4.out _).mono ?_; rintro e w1 ⟨rfl, ⟨m5, rfl⟩⟩
  go_wp2_with fail
  rw [rounds_succ]
  go_wp2_with fail
  refine bodyPost_ret (v := .tuple #[.agg #[.int .i64 (stp b d0 96), .int .i64 (stp b 0 48), .int .i64 (stp b d1 96), .int .i64 (stp b d2 48), .int .i64 (stp b d3 96), .int .i64 (stp b d4 48)], .int .i64 0]) ?_ rfl ⟨rfl, ?_⟩
  · rw [results_cell_tmp (p := 2) (u := 3) (ty := 39) (by kernel_rfl)]
    go_simp
  · repeat (with_reducible first | exact Below.refl _ _ | refine below_alloc ?_ _ | refine pw_below_drewN ?_ _ | refine Below.setCell ?_ (by dsimp only; omega) _)

set_option maxRecDepth 100000 in
set_option maxHeartbeats 2000000 in
theorem steps_n0 (c0 c1 c2 c3 c4 c5 c6 c7 c8 c15 c16 c17 c18 c19 c20 c21 c22 c23 c24 c25 c26 c27 c28 c29 : Value) (b d0 d1 d2 d3 d4 : Int) (w : World) (h0 : okb b d0 = false) :
    Calls Try.prog 21 #[.agg #[c0, c1, c2, c3, c4, c5, c6, c7, c8, .int .i64 b, .int .i64 d0, .int .i64 d1, .int .i64 d2, .int .i64 d3, .int .i64 d4, c15, c16, c17, c18, c19, c20, c21, c22, c23, c24, c25, c26, c27, c28, c29]] w fun e w' => e = .returned (.tuple #[.agg #[.int .i64 0, .int .i64 0, .int .i64 0, .int .i64 0, .int .i64 0, .int .i64 0], .int .i64 2]) ∧ Below w.heap.size w w' := by
  have H0 := Aside0.mk h0
  clear h0
  have i0 : ∀ w, (Instr.index 39 (.agg #[.int .i64 d0, .int .i64 0, .int .i64 d1, .int .i64 d2, .int .i64 d3, .int .i64 d4]) (.int .i64 0)).run Try.prog w = .ok (.agg #[.int .i64 d0, .int .i64 0]) w := fun _ => by kernel_rfl
  go_enter Try.func21, Try.ntmps21
  go_wp2
  refine wp_loop_rounds 4 ?_
  rw [rounds_succ]
  go_wp2_with fail
  refine (Dc_no _ _ H0.out _).mono ?_; rintro e w1 ⟨rfl, ⟨m0, rfl⟩⟩
  go_wp2_with fail
  refine (Ac_any _ _ _).mono ?_; rintro e w1 ⟨rfl, ⟨m1, rfl⟩⟩
  go_wp2_with fail
  refine bodyPost_ret (v := .tuple #[.agg #[.int .i64 0, .int .i64 0, .int .i64 0, .int .i64 0, .int .i64 0, .int .i64 0], .int .i64 2]) ?_ rfl ⟨rfl, ?_⟩
  · rw [results_cell_tmp (p := 2) (u := 3) (ty := 39) (by kernel_rfl)]
    go_simp
  · repeat (with_reducible first | exact Below.refl _ _ | refine below_alloc ?_ _ | refine pw_below_drewN ?_ _ | refine Below.setCell ?_ (by dsimp only; omega) _)

set_option maxRecDepth 100000 in
set_option maxHeartbeats 2000000 in
theorem steps_n2 (c0 c1 c2 c3 c4 c5 c6 c7 c8 c15 c16 c17 c18 c19 c20 c21 c22 c23 c24 c25 c26 c27 c28 c29 : Value) (b d0 d1 d2 d3 d4 : Int) (w : World) (h0 : okb b d0 = true) (h00 : okb b 0 = true) (h1 : okb b d1 = false) :
    Calls Try.prog 21 #[.agg #[c0, c1, c2, c3, c4, c5, c6, c7, c8, .int .i64 b, .int .i64 d0, .int .i64 d1, .int .i64 d2, .int .i64 d3, .int .i64 d4, c15, c16, c17, c18, c19, c20, c21, c22, c23, c24, c25, c26, c27, c28, c29]] w fun e w' => e = .returned (.tuple #[.agg #[.int .i64 0, .int .i64 0, .int .i64 0, .int .i64 0, .int .i64 0, .int .i64 0], .int .i64 2]) ∧ Below w.heap.size w w' := by
  have H0 := Aside0.mk h0
  have H00 := Aside0.mk h00
  have H1 := Aside0.mk h1
  clear h0 h00 h1
  have i0 : ∀ w, (Instr.index 39 (.agg #[.int .i64 d0, .int .i64 0, .int .i64 d1, .int .i64 d2, .int .i64 d3, .int .i64 d4]) (.int .i64 0)).run Try.prog w = .ok (.agg #[.int .i64 d0, .int .i64 0]) w := fun _ => by kernel_rfl
  have i1 : ∀ w, (Instr.index 39 (.agg #[.int .i64 d0, .int .i64 0, .int .i64 d1, .int .i64 d2, .int .i64 d3, .int .i64 d4]) (.int .i64 1)).run Try.prog w = .ok (.agg #[.int .i64 d1, .int .i64 d2]) w := fun _ => by kernel_rfl
  go_enter Try.func21, Try.ntmps21
  go_wp2
  refine wp_loop_rounds 4 ?_
  rw [rounds_succ]
  go_wp2_with fail
  refine (Dc_ok _ _ H0.out _).mono ?_; rintro e w1 ⟨rfl, ⟨m0, rfl⟩⟩
  go_wp2_with fail
  refine (Ac_ok _ _ H00.out _).mono ?_; rintro e w1 ⟨rfl, ⟨m1, rfl⟩⟩
  go_wp2_with fail
  rw [rounds_succ]
  go_wp2_with fail
  refine (Dc_no _ _ H1.out _).mono ?_; rintro e w1 ⟨rfl, ⟨m2, rfl⟩⟩
  go_wp2_with fail
  refine (Ac_any _ _ _).mono ?_; rintro e w1 ⟨rfl, ⟨m3, rfl⟩⟩
  go_wp2_with fail
  refine bodyPost_ret (v := .tuple #[.agg #[.int .i64 0, .int .i64 0, .int .i64 0, .int .i64 0, .int .i64 0, .int .i64 0], .int .i64 2]) ?_ rfl ⟨rfl, ?_⟩
  · rw [results_cell_tmp (p := 2) (u := 3) (ty := 39) (by kernel_rfl)]
    go_simp
  · repeat (with_reducible first | exact Below.refl _ _ | refine below_alloc ?_ _ | refine pw_below_drewN ?_ _ | refine Below.setCell ?_ (by dsimp only; omega) _)

set_option maxRecDepth 100000 in
set_option maxHeartbeats 2000000 in
theorem steps_n3 (c0 c1 c2 c3 c4 c5 c6 c7 c8 c15 c16 c17 c18 c19 c20 c21 c22 c23 c24 c25 c26 c27 c28 c29 : Value) (b d0 d1 d2 d3 d4 : Int) (w : World) (h0 : okb b d0 = true) (h00 : okb b 0 = true) (h1 : okb b d1 = true) (h2 : okb b d2 = false) :
    Calls Try.prog 21 #[.agg #[c0, c1, c2, c3, c4, c5, c6, c7, c8, .int .i64 b, .int .i64 d0, .int .i64 d1, .int .i64 d2, .int .i64 d3, .int .i64 d4, c15, c16, c17, c18, c19, c20, c21, c22, c23, c24, c25, c26, c27, c28, c29]] w fun e w' => e = .returned (.tuple #[.agg #[.int .i64 0, .int .i64 0, .int .i64 0, .int .i64 0, .int .i64 0, .int .i64 0], .int .i64 2]) ∧ Below w.heap.size w w' := by
  have H0 := Aside0.mk h0
  have H00 := Aside0.mk h00
  have H1 := Aside0.mk h1
  have H2 := Aside0.mk h2
  clear h0 h00 h1 h2
  have i0 : ∀ w, (Instr.index 39 (.agg #[.int .i64 d0, .int .i64 0, .int .i64 d1, .int .i64 d2, .int .i64 d3, .int .i64 d4]) (.int .i64 0)).run Try.prog w = .ok (.agg #[.int .i64 d0, .int .i64 0]) w := fun _ => by kernel_rfl
  have i1 : ∀ w, (Instr.index 39 (.agg #[.int .i64 d0, .int .i64 0, .int .i64 d1, .int .i64 d2, .int .i64 d3, .int .i64 d4]) (.int .i64 1)).run Try.prog w = .ok (.agg #[.int .i64 d1, .int .i64 d2]) w := fun _ => by kernel_rfl
  go_enter Try.func21, Try.ntmps21
  go_wp2
  refine wp_loop_rounds 4 ?_
  rw [rounds_succ]
  go_wp2_with fail
  refine (Dc_ok _ _ H0.out _).mono ?_; rintro e w1 ⟨rfl, ⟨m0, rfl⟩⟩
  go_wp2_with fail
  refine (Ac_ok _ _ H00.out _).mono ?_; rintro e w1 ⟨rfl, ⟨m1, rfl⟩⟩
  go_wp2_with fail
  rw [rounds_succ]
  go_wp2_with fail
  refine (Dc_ok _ _ H1.out _).mono ?_; rintro e w1 ⟨rfl, ⟨m2, rfl⟩⟩
  go_wp2_with fail
  refine (Ac_no _ _ H2.out _).mono ?_; rintro e w1 ⟨rfl, ⟨m3, rfl⟩⟩
  go_wp2_with fail
  refine bodyPost_ret (v := .tuple #[.agg #[.int .i64 0, .int .i64 0, .int .i64 0, .int .i64 0, .int .i64 0, .int .i64 0], .int .i64 2]) ?_ rfl ⟨rfl, ?_⟩
  · rw [results_cell_tmp (p := 2) (u := 3) (ty := 39) (by kernel_rfl)]
    go_simp
  · repeat (with_reducible first | exact Below.refl _ _ | refine below_alloc ?_ _ | refine pw_below_drewN ?_ _ | refine Below.setCell ?_ (by dsimp only; omega) _)

set_option maxRecDepth 100000 in
set_option maxHeartbeats 2000000 in
theorem steps_n4 (c0 c1 c2 c3 c4 c5 c6 c7 c8 c15 c16 c17 c18 c19 c20 c21 c22 c23 c24 c25 c26 c27 c28 c29 : Value) (b d0 d1 d2 d3 d4 : Int) (w : World) (h0 : okb b d0 = true) (h00 : okb b 0 = true) (h1 : okb b d1 = true) (h2 : okb b d2 = true) (h3 : okb b d3 = false) :
    Calls Try.prog 21 #[.agg #[c0, c1, c2, c3, c4, c5, c6, c7, c8, .int .i64 b, .int .i64 d0, .int .i64 d1, .int .i64 d2, .int .i64 d3, .int .i64 d4, c15, c16, c17, c18, c19, c20, c21, c22, c23, c24, c25, c26, c27, c28, c29]] w fun e w' => e = .returned (.tuple #[.agg #[.int .i64 0, .int .i64 0, .int .i64 0, .int .i64 0, .int .i64 0, .int .i64 0], .int .i64 2]) ∧ Below w.heap.size w w' := by
  have H0 := Aside0.mk h0
  have H00 := Aside0.mk h00
  have H1 := Aside0.mk h1
  have H2 := Aside0.mk h2
  have H3 := Aside0.mk h3
  clear h0 h00 h1 h2 h3
  have i0 : ∀ w, (Instr.index 39 (.agg #[.int .i64 d0, .int .i64 0, .int .i64 d1, .int .i64 d2, .int .i64 d3, .int .i64 d4]) (.int .i64 0)).run Try.prog w = .ok (.agg #[.int .i64 d0, .int .i64 0]) w := fun _ => by kernel_rfl
  have i1 : ∀ w, (Instr.index 39 (.agg #[.int .i64 d0, .int .i64 0, .int .i64 d1, .int .i64 d2, .int .i64 d3, .int .i64 d4]) (.int .i64 1)).run Try.prog w = .ok (.agg #[.int .i64 d1, .int .i64 d2]) w := fun _ => by kernel_rfl
  have i2 : ∀ w, (Instr.index 39 (.agg #[.int .i64 d0, .int .i64 0, .int .i64 d1, .int .i64 d2, .int .i64 d3, .int .i64 d4]) (.int .i64 2)).run Try.prog w = .ok (.agg #[.int .i64 d3, .int .i64 d4]) w := fun _ => by kernel_rfl
  go_enter Try.func21, Try.ntmps21
  go_wp2
  refine wp_loop_rounds 4 ?_
  rw [rounds_succ]
  go_wp2_with fail
  refine (Dc_ok _ _ H0.out _).mono ?_; rintro e w1 ⟨rfl, ⟨m0, rfl⟩⟩
  go_wp2_with fail
  refine (Ac_ok _ _ H00.out _).mono ?_; rintro e w1 ⟨rfl, ⟨m1, rfl⟩⟩
  go_wp2_with fail
  rw [rounds_succ]
  go_wp2_with fail
  refine (Dc_ok _ _ H1.out _).mono ?_; rintro e w1 ⟨rfl, ⟨m2, rfl⟩⟩
  go_wp2_with fail
  refine (Ac_ok _ _ H2.out _).mono ?_; rintro e w1 ⟨rfl, ⟨m3, rfl⟩⟩
  go_wp2_with fail
  rw [rounds_succ]
  go_wp2_with fail
  refine (Dc_no _ _ H3.out _).mono ?_; rintro e w1 ⟨rfl, ⟨m4, rfl⟩⟩
  go_wp2_with fail
  refine (Ac_any _ _ _).mono ?_; rintro e w1 ⟨rfl, ⟨m5, rfl⟩⟩
  go_wp2_with fail
  refine bodyPost_ret (v := .tuple #[.agg #[.int .i64 0, .int .i64 0, .int .i64 0, .int .i64 0, .int .i64 0, .int .i64 0], .int .i64 2]) ?_ rfl ⟨rfl, ?_⟩
  · rw [results_cell_tmp (p := 2) (u := 3) (ty := 39) (by kernel_rfl)]
    go_simp
  · repeat (with_reducible first | exact Below.refl _ _ | refine below_alloc ?_ _ | refine pw_below_drewN ?_ _ | refine Below.setCell ?_ (by dsimp only; omega) _)

set_option maxRecDepth 100000 in
set_option maxHeartbeats 2000000 in
theorem steps_n5 (c0 c1 c2 c3 c4 c5 c6 c7 c8 c15 c16 c17 c18 c19 c20 c21 c22 c23 c24 c25 c26 c27 c28 c29 : Value) (b d0 d1 d2 d3 d4 : Int) (w : World) (h0 : okb b d0 = true) (h00 : okb b 0 = true) (h1 : okb b d1 = true) (h2 : okb b d2 = true) (h3 : okb b d3 = true) (h4 : okb b d4 = false) :
    Calls Try.prog 21 #[.agg #[c0, c1, c2, c3, c4, c5, c6, c7, c8, .int .i64 b, .int .i64 d0, .int .i64 d1, .int .i64 d2, .int .i64 d3, .int .i64 d4, c15, c16, c17, c18, c19, c20, c21, c22, c23, c24, c25, c26, c27, c28, c29]] w fun e w' => e = .returned (.tuple #[.agg #[.int .i64 0, .int .i64 0, .int .i64 0, .int .i64 0, .int .i64 0, .int .i64 0], .int .i64 2]) ∧ Below w.heap.size w w' := by
  have H0 := Aside0.mk h0
  have H00 := Aside0.mk h00
  have H1 := Aside0.mk h1
  have H2 := Aside0.mk h2
  have H3 := Aside0.mk h3
  have H4 := Aside0.mk h4
  clear h0 h00 h1 h2 h3 h4
  have i0 : ∀ w, (Instr.index 39 (.agg #[.int .i64 d0, .int .i64 0, .int .i64 d1, .int .i64 d2, .int .i64 d3, .int .i64 d4]) (.int .i64 0)).run Try.prog w = .ok (.agg #[.int .i64 d0, .int .i64 0]) w := fun _ => by kernel_rfl
  have i1 : ∀ w, (Instr.index 39 (.agg #[.int .i64 d0, .int .i64 0, .int .i64 d1, .int .i64 d2, .int .i64 d3, .int .i64 d4]) (.int .i64 1)).run Try.prog w = .ok (.agg #[.int .i64 d1, .int .i64 d2]) w := fun _ => by kernel_rfl
  have i2 : ∀ w, (Instr.index 39 (.agg #[.int .i64 d0, .int .i64 0, .int .i64 d1, .int .i64 d2, .int .i64 d3, .int .i64 d4]) (.int .i64 2)).run Try.prog w = .ok (.agg #[.int .i64 d3, .int .i64 d4]) w := fun _ => by kernel_rfl
  go_enter Try.func21, Try.ntmps21
  go_wp2
  refine wp_loop_rounds 4 ?_
  rw [rounds_succ]
  go_wp2_with fail
  refine (Dc_ok _ _ H0.out _).mono ?_; rintro e w1 ⟨rfl, ⟨m0, rfl⟩⟩
  go_wp2_with fail
  refine (Ac_ok _ _ H00.out _).mono ?_; rintro e w1 ⟨rfl, ⟨m1, rfl⟩⟩
  go_wp2_with fail
  rw [rounds_succ]
  go_wp2_with fail
  refine (Dc_ok _ _ H1.out _).mono ?_; rintro e w1 ⟨rfl, ⟨m2, rfl⟩⟩
  go_wp2_with fail
  refine (Ac_ok _ _ H2.out _).mono ?_; rintro e w1 ⟨rfl, ⟨m3, rfl⟩⟩
  go_wp2_with fail
  rw [rounds_succ]
  go_wp2_with fail
  refine (Dc_ok _ _ H3.out _).mono ?_; rintro e w1 ⟨rfl, ⟨m4, rfl⟩⟩
  go_wp2_with fail
  refine (Ac_no _ _ H4.out _).mono ?_; rintro e w1 ⟨rfl, ⟨m5, rfl⟩⟩
  go_wp2_with fail
  refine bodyPost_ret (v := .tuple #[.agg #[.int .i64 0, .int .i64 0, .int .i64 0, .int .i64 0, .int .i64 0, .int .i64 0], .int .i64 2]) ?_ rfl ⟨rfl, ?_⟩
  · rw [results_cell_tmp (p := 2) (u := 3) (ty := 39) (by kernel_rfl)]
    go_simp
  · repeat (with_reducible first | exact Below.refl _ _ | refine below_alloc ?_ _ | refine pw_below_drewN ?_ _ | refine Below.setCell ?_ (by dsimp only; omega) _)

theorem okb_zero {b d : Int} (h : okb b d = true) : okb b 0 = true := by rw [okb_iff] at *; omega
theorem six_bad {b d0 d1 d2 d3 d4 : Int} (h : okAll b d0 d1 d2 d3 d4 = false) : six b d0 d1 d2 d3 d4 = #[.int .i64 0, .int .i64 0, .int .i64 0, .int .i64 0, .int .i64 0, .int .i64 0] ∧ err b d0 d1 d2 d3 d4 = 2 := by unfold six err; rw [h]; exact ⟨rfl, rfl⟩
theorem six_good {b d0 d1 d2 d3 d4 : Int} (h : okAll b d0 d1 d2 d3 d4 = true) : six b d0 d1 d2 d3 d4 = #[.int .i64 (stp b d0 96), .int .i64 (stp b 0 48), .int .i64 (stp b d1 96), .int .i64 (stp b d2 48), .int .i64 (stp b d3 96), .int .i64 (stp b d4 48)] ∧ err b d0 d1 d2 d3 d4 = 0 := by unfold six err; rw [h]; exact ⟨rfl, rfl⟩
theorem steps_any (c0 c1 c2 c3 c4 c5 c6 c7 c8 c15 c16 c17 c18 c19 c20 c21 c22 c23 c24 c25 c26 c27 c28 c29 : Value) (b d0 d1 d2 d3 d4 : Int) (w : World) : Calls Try.prog 21 #[.agg #[c0, c1, c2, c3, c4, c5, c6, c7, c8, .int .i64 b, .int .i64 d0, .int .i64 d1, .int .i64 d2, .int .i64 d3, .int .i64 d4, c15, c16, c17, c18, c19, c20, c21, c22, c23, c24, c25, c26, c27, c28, c29]] w fun e w' => e = .returned (.tuple #[.agg (six b d0 d1 d2 d3 d4), .int .i64 (err b d0 d1 d2 d3 d4)]) ∧ Below w.heap.size w w' := by
  cases h0 : okb b d0 with
  | false =>
    obtain ⟨e1, e2⟩ := six_bad (d1 := d1) (d2 := d2) (d3 := d3) (d4 := d4) (show okAll b d0 d1 d2 d3 d4 = false by simp [okAll, h0])
    rw [e1, e2]; exact steps_n0 c0 c1 c2 c3 c4 c5 c6 c7 c8 c15 c16 c17 c18 c19 c20 c21 c22 c23 c24 c25 c26 c27 c28 c29 b d0 d1 d2 d3 d4 w h0
  | true =>
  have h00 := okb_zero h0
  cases h1 : okb b d1 with
  | false =>
    obtain ⟨e1, e2⟩ := six_bad (d0 := d0) (d2 := d2) (d3 := d3) (d4 := d4) (show okAll b d0 d1 d2 d3 d4 = false by simp [okAll, h1])
    rw [e1, e2]; exact steps_n2 c0 c1 c2 c3 c4 c5 c6 c7 c8 c15 c16 c17 c18 c19 c20 c21 c22 c23 c24 c25 c26 c27 c28 c29 b d0 d1 d2 d3 d4 w h0 h00 h1
  | true =>
  cases h2 : okb b d2 with
  | false =>
    obtain ⟨e1, e2⟩ := six_bad (d0 := d0) (d1 := d1) (d3 := d3) (d4 := d4) (show okAll b d0 d1 d2 d3 d4 = false by simp [okAll, h2])
    rw [e1, e2]; exact steps_n3 c0 c1 c2 c3 c4 c5 c6 c7 c8 c15 c16 c17 c18 c19 c20 c21 c22 c23 c24 c25 c26 c27 c28 c29 b d0 d1 d2 d3 d4 w h0 h00 h1 h2
  | true =>
  cases h3 : okb b d3 with
  | false =>
    obtain ⟨e1, e2⟩ := six_bad (d0 := d0) (d1 := d1) (d2 := d2) (d4 := d4) (show okAll b d0 d1 d2 d3 d4 = false by simp [okAll, h3])
    rw [e1, e2]; exact steps_n4 c0 c1 c2 c3 c4 c5 c6 c7 c8 c15 c16 c17 c18 c19 c20 c21 c22 c23 c24 c25 c26 c27 c28 c29 b d0 d1 d2 d3 d4 w h0 h00 h1 h2 h3
  | true =>
  cases h4 : okb b d4 with
  | false =>
    obtain ⟨e1, e2⟩ := six_bad (d0 := d0) (d1 := d1) (d2 := d2) (d3 := d3) (show okAll b d0 d1 d2 d3 d4 = false by simp [okAll, h4])
    rw [e1, e2]; exact steps_n5 c0 c1 c2 c3 c4 c5 c6 c7 c8 c15 c16 c17 c18 c19 c20 c21 c22 c23 c24 c25 c26 c27 c28 c29 b d0 d1 d2 d3 d4 w h0 h00 h1 h2 h3 h4
  | true =>
    obtain ⟨e1, e2⟩ := six_good (show okAll b d0 d1 d2 d3 d4 = true by simp [okAll, h0, h1, h2, h3, h4])
    rw [e1, e2]; exact steps_ok c0 c1 c2 c3 c4 c5 c6 c7 c8 c15 c16 c17 c18 c19 c20 c21 c22 c23 c24 c25 c26 c27 c28 c29 b d0 d1 d2 d3 d4 w h0 h00 h1 h2 h3 h4


end Go.Proofs.Ytgflgeblimiocaa.St
