/- Layer 9: the walk of QuantRise: steps rise, and lie between 4 and 1613; a frame that loses nothing has steps of 4. No conditions. -/
import Derived.Test.YtgflgeblimiocaaLo
import Derived.Test.YtgflgeblimiocaaWk
import Derived.Test.YtgflgeblimiocaaLow
import Derived.Test.YtgflgeblimiocaaPQuantRisex1
namespace Go.Proofs.Ytgflgeblimiocaa.St
open Go.RowKit Go.Proofs.Ytgflgeblimiocaa.PQuantSteps Go.Proofs.YtgflgeblimiocaaW.PrintWords Go.Proofs.YtgflgeblimiocaaW.PrintLast Go.Proofs.YtgflgeblimiocaaW.PrintMore Go.Proofs.Ytgflgeblimiocaa.Q Go.Proofs.Ytgflgeblimiocaa.Low

theorem bring_any (a n : Int) (h0 : 0 < n) (h1 : n ≤ 4611686018427387904) (w : World) : Calls Try.prog 14 #[.int .i64 a, .int .i64 n] w fun e w' => e = .returned (.int .i64 (a % n)) ∧ Drawn0 w w' :=
  PQuantRise.zoetroperef00_Bring.calls a n _ w (bring_code a n h0 h1)
/-- A whole row loaded by an operation whose guard says yes. -/
theorem g_load {P : Program} {ops : Array Oper} {rest : List Oper} {o : Oper} {a : Act} {w : World} {Q : Exit → Act → World → Prop} (hw : Region.wanted o (yielded ops a.tmps) = true) (ty : TypeId) (x : Operand) (ho : o.op = .load ty x)
    (g : Nat) (hx : a.eval x = .pointer (some ⟨g, 0, none⟩)) (t : TypeId) (cs : Array Value) (fr : Nat × Nat) (d : TypeDesc) (hg : w.heap[g]? = some (.cells cs t fr))
    (hu : P.underlying ty = some d) (hd : (match d with | .struct _ | .array _ _ => true | _ => false) = true) (hi : (P.info? ty).map (·.size) = some cs.size)
    (h : wpList P ops Q rest (a.put o.dst (.agg cs)) w) : wpList P ops Q (o :: rest) a w :=
  wpList_step fun K hK => by rw [if_pos hw]; exact wp_load_row ty x ho g hx t cs fr d hg hu hd hi (hK _ _ h)
theorem cl_mono {x y : Int} (h : x ≤ y) : cl x 0 255 ≤ cl y 0 255 := by unfold cl; (repeat' split) <;> omega
theorem stp_mono {b d b' d' p : Int} (hp : 1 ≤ p) (h : b + d ≤ b' + d') : stp b d p ≤ stp b' d' p := by
  have h1 := cl_mono h
  have h2 := cl_in (b + d)
  have h3 := cl_in (b' + d')
  have h4 : cl (b + d) 0 255 * cl (b + d) 0 255 ≤ cl (b' + d') 0 255 * cl (b' + d') 0 255 := Int.mul_le_mul h1 h1 h2.1 h3.1
  have h5 := Int.ediv_le_ediv (show 0 < p by omega) h4
  unfold stp; omega
theorem stp_ac (b d : Int) : stp b d 96 ≤ stp b d 48 ∧ stp b d 48 ≤ 1613 := by
  have h2 := cl_in (b + d)
  have hq := sq_le h2.1 h2.2
  unfold stp
  generalize cl (b + d) 0 255 * cl (b + d) 0 255 = q at *
  omega
theorem loss_zero {b d0 d1 d2 d3 d4 : Int} (h : none5 b d0 d1 d2 d3 d4 = true) : b = 0 ∧ d0 = 0 ∧ d1 = 0 ∧ d2 = 0 ∧ d3 = 0 ∧ d4 = 0 := by
  unfold none5 at h
  simp only [Bool.and_eq_true, beq_iff_eq, Bool.and_true] at h
  exact ⟨h.1, h.2.1, h.2.2.1, h.2.2.2.1, h.2.2.2.2.1, h.2.2.2.2.2⟩

set_option maxRecDepth 100000 in
set_option maxHeartbeats 4000000 in
theorem rise_bad (x y : Int) (c0 c1 c2 c3 c4 c5 c6 c7 c8 c15 c16 c17 c18 c19 c20 c21 c22 c23 c24 c25 c26 c27 c28 c29 : Value) (b d0 d1 d2 d3 d4 : Int) (w : World) 
    (S1 : ∀ w, Calls Try.prog 21 #[.agg #[c0, c1, c2, c3, c4, c5, c6, c7, c8, .int .i64 b, .int .i64 d0, .int .i64 d1, .int .i64 d2, .int .i64 d3, .int .i64 d4, c15, c16, c17, c18, c19, c20, c21, c22, c23, c24, c25, c26, c27, c28, c29]] w fun e w' => e = .returned (.tuple #[.agg #[.int .i64 0, .int .i64 0, .int .i64 0, .int .i64 0, .int .i64 0, .int .i64 0], .int .i64 2]) ∧ Below w.heap.size w w')
     :
    Calls Try.prog 7 #[.int .i64 x, .int .i64 y, .agg #[c0, c1, c2, c3, c4, c5, c6, c7, c8, .int .i64 b, .int .i64 d0, .int .i64 d1, .int .i64 d2, .int .i64 d3, .int .i64 d4, c15, c16, c17, c18, c19, c20, c21, c22, c23, c24, c25, c26, c27, c28, c29]] w fun e w' => e = .returned (.bool true) ∧ Below w.heap.size w w' := by
  have T1 := Aside0.mk S1
  clear S1
  have W1 := Aside0.mk works_quiet
  have h0 : 0 ≤ x % 255 := by omega
  have h1 : x % 255 ≤ 254 := by omega
  have h2 : 0 ≤ y % 62 := by omega
  have h3 : y % 62 ≤ 61 := by omega
  have B1 := Aside0.mk (fun w => bring_any x 255 (by omega) (by omega) w)
  have B2 := Aside0.mk (fun w => bring_any y 62 (by omega) (by omega) w)
  generalize x % 255 = u at *
  generalize y % 62 = v at *
  have o1 : okb u (v - 31) = true := okb_iff.2 (by omega)
  have o2 : okb (u + 1) (v - 31) = true := okb_iff.2 (by omega)
  have o3 : okb u (v - 31 + 1) = true := okb_iff.2 (by omega)
  have D1 := Aside0.mk (fun w => Dc_ok u (v - 31) o1 w)
  have D2 := Aside0.mk (fun w => Dc_ok (u + 1) (v - 31) o2 w)
  have D3 := Aside0.mk (fun w => Dc_ok u (v - 31 + 1) o3 w)
  have A1 := Aside0.mk (fun w => Ac_ok u (v - 31) o1 w)
  have A2 := Aside0.mk (fun w => Ac_ok (u + 1) (v - 31) o2 w)
  have A3 := Aside0.mk (fun w => Ac_ok u (v - 31 + 1) o3 w)
  have i1 := stp_mono (b := u) (d := v - 31) (b' := u + 1) (d' := v - 31) (p := 96) (by omega) (by omega)
  have i2 := stp_mono (b := u) (d := v - 31) (b' := u) (d' := v - 31 + 1) (p := 96) (by omega) (by omega)
  have i3 := stp_mono (b := u) (d := v - 31) (b' := u + 1) (d' := v - 31) (p := 48) (by omega) (by omega)
  have i4 := stp_mono (b := u) (d := v - 31) (b' := u) (d' := v - 31 + 1) (p := 48) (by omega) (by omega)
  have i5 := (stp_ac u (v - 31)).1
  have i6 := (stp_ac (u + 1) (v - 31)).2
  have i7 := (stp_in (b := u) (d := v - 31) (p := 96) (by omega)).1
  clear o1 o2 o3
  generalize stp u (v - 31) 96 = s1 at *
  generalize stp (u + 1) (v - 31) 96 = s2 at *
  generalize stp u (v - 31 + 1) 96 = s3 at *
  generalize stp u (v - 31) 48 = s4 at *
  generalize stp (u + 1) (v - 31) 48 = s5 at *
  generalize stp u (v - 31 + 1) 48 = s6 at *
  go_enter Try.func7, Try.ntmps7
  go_wp2_with fail
  refine (W1.out _).mono ?_; rintro e w1 ⟨rfl, ⟨n0, rfl⟩⟩
  go_wp2_with fail
  refine (B1.out _).mono ?_; rintro e w1 ⟨rfl, ⟨n1, rfl⟩⟩
  go_wp2_with fail
  refine (B2.out _).mono ?_; rintro e w1 ⟨rfl, ⟨n2, rfl⟩⟩
  go_wp2_with fail
  refine (D1.out _).mono ?_; rintro e w1 ⟨rfl, ⟨n3, rfl⟩⟩
  go_wp2_with fail
  refine (D2.out _).mono ?_; rintro e w1 ⟨rfl, ⟨n4, rfl⟩⟩
  go_wp2_with fail
  refine (D3.out _).mono ?_; rintro e w1 ⟨rfl, ⟨n5, rfl⟩⟩
  go_wp2_with fail
  refine (A1.out _).mono ?_; rintro e w1 ⟨rfl, ⟨n6, rfl⟩⟩
  go_wp2_with fail
  refine (A2.out _).mono ?_; rintro e w1 ⟨rfl, ⟨n7, rfl⟩⟩
  go_wp2_with fail
  refine (A3.out _).mono ?_; rintro e w1 ⟨rfl, ⟨n8, rfl⟩⟩
  clear W1 B1 B2 D1 D2 D3 A1 A2 A3
  go_wp2_with (with_reducible refine wpList_load_row rfl 36 (.tmp 5) rfl _ rfl 36 _ (0, 0) _ (heap_dn w _ _) Try.underlying36 rfl (by kernel_rfl) ?_)
  refine (T1.out _).mono ?_; rintro e w1 ⟨rfl, hb⟩
  have HB := Aside0.mk (below_step (pw_below_drewN (below_alloc (Below.refl w.heap.size w) _) _) hb)
  clear hb
  go_wp2_with fail
  go_ret
  exact ⟨rfl, by repeat (with_reducible first | exact HB.out | refine below_alloc ?_ _)⟩

set_option maxRecDepth 100000 in
set_option maxHeartbeats 4000000 in
theorem rise_ok (x y : Int) (c0 c1 c2 c3 c4 c5 c6 c7 c8 c15 c16 c17 c18 c19 c20 c21 c22 c23 c24 c25 c26 c27 c28 c29 : Value) (b d0 d1 d2 d3 d4 : Int) (w : World) (g0 g1 g2 g3 g4 g5 : Int) (k0 : 4 ≤ g0) (k1 : 4 ≤ g1) (k2 : 4 ≤ g2) (k3 : 4 ≤ g3) (k4 : 4 ≤ g4) (k5 : 4 ≤ g5)
    (S1 : ∀ w, Calls Try.prog 21 #[.agg #[c0, c1, c2, c3, c4, c5, c6, c7, c8, .int .i64 b, .int .i64 d0, .int .i64 d1, .int .i64 d2, .int .i64 d3, .int .i64 d4, c15, c16, c17, c18, c19, c20, c21, c22, c23, c24, c25, c26, c27, c28, c29]] w fun e w' => e = .returned (.tuple #[.agg #[.int .i64 g0, .int .i64 g1, .int .i64 g2, .int .i64 g3, .int .i64 g4, .int .i64 g5], .int .i64 0]) ∧ Below w.heap.size w w')
    (L1 : ∀ w, Calls Try.prog 23 #[.agg #[c0, c1, c2, c3, c4, c5, c6, c7, c8, .int .i64 b, .int .i64 d0, .int .i64 d1, .int .i64 d2, .int .i64 d3, .int .i64 d4, c15, c16, c17, c18, c19, c20, c21, c22, c23, c24, c25, c26, c27, c28, c29]] w fun e w' => e = .returned (.bool false) ∧ Below w.heap.size w w') :
    Calls Try.prog 7 #[.int .i64 x, .int .i64 y, .agg #[c0, c1, c2, c3, c4, c5, c6, c7, c8, .int .i64 b, .int .i64 d0, .int .i64 d1, .int .i64 d2, .int .i64 d3, .int .i64 d4, c15, c16, c17, c18, c19, c20, c21, c22, c23, c24, c25, c26, c27, c28, c29]] w fun e w' => e = .returned (.bool true) ∧ Below w.heap.size w w' := by
  have T1 := Aside0.mk S1
  clear S1
  have T2 := Aside0.mk L1
  clear L1
  have W1 := Aside0.mk works_quiet
  have h0 : 0 ≤ x % 255 := by omega
  have h1 : x % 255 ≤ 254 := by omega
  have h2 : 0 ≤ y % 62 := by omega
  have h3 : y % 62 ≤ 61 := by omega
  have B1 := Aside0.mk (fun w => bring_any x 255 (by omega) (by omega) w)
  have B2 := Aside0.mk (fun w => bring_any y 62 (by omega) (by omega) w)
  generalize x % 255 = u at *
  generalize y % 62 = v at *
  have o1 : okb u (v - 31) = true := okb_iff.2 (by omega)
  have o2 : okb (u + 1) (v - 31) = true := okb_iff.2 (by omega)
  have o3 : okb u (v - 31 + 1) = true := okb_iff.2 (by omega)
  have D1 := Aside0.mk (fun w => Dc_ok u (v - 31) o1 w)
  have D2 := Aside0.mk (fun w => Dc_ok (u + 1) (v - 31) o2 w)
  have D3 := Aside0.mk (fun w => Dc_ok u (v - 31 + 1) o3 w)
  have A1 := Aside0.mk (fun w => Ac_ok u (v - 31) o1 w)
  have A2 := Aside0.mk (fun w => Ac_ok (u + 1) (v - 31) o2 w)
  have A3 := Aside0.mk (fun w => Ac_ok u (v - 31 + 1) o3 w)
  have i1 := stp_mono (b := u) (d := v - 31) (b' := u + 1) (d' := v - 31) (p := 96) (by omega) (by omega)
  have i2 := stp_mono (b := u) (d := v - 31) (b' := u) (d' := v - 31 + 1) (p := 96) (by omega) (by omega)
  have i3 := stp_mono (b := u) (d := v - 31) (b' := u + 1) (d' := v - 31) (p := 48) (by omega) (by omega)
  have i4 := stp_mono (b := u) (d := v - 31) (b' := u) (d' := v - 31 + 1) (p := 48) (by omega) (by omega)
  have i5 := (stp_ac u (v - 31)).1
  have i6 := (stp_ac (u + 1) (v - 31)).2
  have i7 := (stp_in (b := u) (d := v - 31) (p := 96) (by omega)).1
  clear o1 o2 o3
  generalize stp u (v - 31) 96 = s1 at *
  generalize stp (u + 1) (v - 31) 96 = s2 at *
  generalize stp u (v - 31 + 1) 96 = s3 at *
  generalize stp u (v - 31) 48 = s4 at *
  generalize stp (u + 1) (v - 31) 48 = s5 at *
  generalize stp u (v - 31 + 1) 48 = s6 at *
  go_enter Try.func7, Try.ntmps7
  go_wp2_with fail
  refine (W1.out _).mono ?_; rintro e w1 ⟨rfl, ⟨n0, rfl⟩⟩
  go_wp2_with fail
  refine (B1.out _).mono ?_; rintro e w1 ⟨rfl, ⟨n1, rfl⟩⟩
  go_wp2_with fail
  refine (B2.out _).mono ?_; rintro e w1 ⟨rfl, ⟨n2, rfl⟩⟩
  go_wp2_with fail
  refine (D1.out _).mono ?_; rintro e w1 ⟨rfl, ⟨n3, rfl⟩⟩
  go_wp2_with fail
  refine (D2.out _).mono ?_; rintro e w1 ⟨rfl, ⟨n4, rfl⟩⟩
  go_wp2_with fail
  refine (D3.out _).mono ?_; rintro e w1 ⟨rfl, ⟨n5, rfl⟩⟩
  go_wp2_with fail
  refine (A1.out _).mono ?_; rintro e w1 ⟨rfl, ⟨n6, rfl⟩⟩
  go_wp2_with fail
  refine (A2.out _).mono ?_; rintro e w1 ⟨rfl, ⟨n7, rfl⟩⟩
  go_wp2_with fail
  refine (A3.out _).mono ?_; rintro e w1 ⟨rfl, ⟨n8, rfl⟩⟩
  clear W1 B1 B2 D1 D2 D3 A1 A2 A3
  go_wp2_with (with_reducible refine wpList_load_row rfl 36 (.tmp 5) rfl _ rfl 36 _ (0, 0) _ (heap_dn w _ _) Try.underlying36 rfl (by kernel_rfl) ?_)
  refine (T1.out _).mono ?_; rintro e w1 ⟨rfl, hb⟩
  have z1 : w.heap.size < w1.heap.size := by have := hb.size; simp at this; omega
  have g := Aside0.mk ((heap_alloc_old w1 (.cells #[.int .i64 g0, .int .i64 g1, .int .i64 g2, .int .i64 g3, .int .i64 g4, .int .i64 g5] 39) z1).trans ((hb.block w.heap.size (by simp)).trans (heap_dn w _ _)))
  have r := Aside0.mk (heap_alloc_new w1 (.cells #[.int .i64 g0, .int .i64 g1, .int .i64 g2, .int .i64 g3, .int .i64 g4, .int .i64 g5] 39))
  have HB := Aside0.mk (below_alloc (below_step (pw_below_drewN (below_alloc (Below.refl w.heap.size w) _) _) hb) (.cells #[.int .i64 g0, .int .i64 g1, .int .i64 g2, .int .i64 g3, .int .i64 g4, .int .i64 g5] 39))
  have za : w.heap.size < (w1.alloc (.cells #[.int .i64 g0, .int .i64 g1, .int .i64 g2, .int .i64 g3, .int .i64 g4, .int .i64 g5] 39)).heap.size := by simp; omega
  have zb : w1.heap.size < (w1.alloc (.cells #[.int .i64 g0, .int .i64 g1, .int .i64 g2, .int .i64 g3, .int .i64 g4, .int .i64 g5] 39)).heap.size := by simp
  clear hb z1
  go_wp2_with fail
  generalize hW : w1.alloc (.cells #[.int .i64 g0, .int .i64 g1, .int .i64 g2, .int .i64 g3, .int .i64 g4, .int .i64 g5] 39) = W0 at *
  generalize w1.heap.size = R at *
  clear hW
  refine wp_loop_rounds 4 ?_
  have q0 := cell_of_row W0 R 0 _ _ _ r.out
  have q1 := cell_of_row W0 R 1 _ _ _ r.out
  simp at q0 q1
  rw [rounds_succ]
  go_wp2_with (with_reducible refine g_load (by go_simp) 36 (.tmp 5) rfl _ rfl 36 _ (0, 0) _ g.out Try.underlying36 rfl (by kernel_rfl) ?_)
  refine (T2.out _).mono ?_; rintro e W1 ⟨rfl, hb⟩
  have g' := Aside0.mk ((hb.block _ za).trans g.out)
  have r' := Aside0.mk ((hb.block _ zb).trans r.out)
  have HB' := Aside0.mk (below_step HB.out hb)
  have za' := Nat.lt_of_lt_of_le za hb.size
  have zb' := Nat.lt_of_lt_of_le zb hb.size
  clear g r HB za zb hb q0 q1
  have g := g'
  have r := r'
  have HB := HB'
  have za := za'
  have zb := zb'
  clear g' r' HB' za' zb'
  have q0 := cell_of_row W1 R 0 _ _ _ r.out
  have q1 := cell_of_row W1 R 1 _ _ _ r.out
  simp at q0 q1
  go_wp2_with fail
  clear q0 q1
  have q0 := cell_of_row W1 R 2 _ _ _ r.out
  have q1 := cell_of_row W1 R 3 _ _ _ r.out
  simp at q0 q1
  rw [rounds_succ]
  go_wp2_with (with_reducible refine g_load (by go_simp) 36 (.tmp 5) rfl _ rfl 36 _ (0, 0) _ g.out Try.underlying36 rfl (by kernel_rfl) ?_)
  refine (T2.out _).mono ?_; rintro e W2 ⟨rfl, hb⟩
  have g' := Aside0.mk ((hb.block _ za).trans g.out)
  have r' := Aside0.mk ((hb.block _ zb).trans r.out)
  have HB' := Aside0.mk (below_step HB.out hb)
  have za' := Nat.lt_of_lt_of_le za hb.size
  have zb' := Nat.lt_of_lt_of_le zb hb.size
  clear g r HB za zb hb q0 q1
  have g := g'
  have r := r'
  have HB := HB'
  have za := za'
  have zb := zb'
  clear g' r' HB' za' zb'
  have q0 := cell_of_row W2 R 2 _ _ _ r.out
  have q1 := cell_of_row W2 R 3 _ _ _ r.out
  simp at q0 q1
  go_wp2_with fail
  clear q0 q1
  have q0 := cell_of_row W2 R 4 _ _ _ r.out
  have q1 := cell_of_row W2 R 5 _ _ _ r.out
  simp at q0 q1
  rw [rounds_succ]
  go_wp2_with (with_reducible refine g_load (by go_simp) 36 (.tmp 5) rfl _ rfl 36 _ (0, 0) _ g.out Try.underlying36 rfl (by kernel_rfl) ?_)
  refine (T2.out _).mono ?_; rintro e W3 ⟨rfl, hb⟩
  have g' := Aside0.mk ((hb.block _ za).trans g.out)
  have r' := Aside0.mk ((hb.block _ zb).trans r.out)
  have HB' := Aside0.mk (below_step HB.out hb)
  have za' := Nat.lt_of_lt_of_le za hb.size
  have zb' := Nat.lt_of_lt_of_le zb hb.size
  clear g r HB za zb hb q0 q1
  have g := g'
  have r := r'
  have HB := HB'
  have za := za'
  have zb := zb'
  clear g' r' HB' za' zb'
  have q0 := cell_of_row W3 R 4 _ _ _ r.out
  have q1 := cell_of_row W3 R 5 _ _ _ r.out
  simp at q0 q1
  go_wp2_with fail
  clear q0 q1
  rw [rounds_succ]
  go_wp2_with fail
  go_ret
  exact ⟨rfl, HB.out⟩

set_option maxRecDepth 100000 in
set_option maxHeartbeats 4000000 in
theorem rise_none (x y : Int) (c0 c1 c2 c3 c4 c5 c6 c7 c8 c15 c16 c17 c18 c19 c20 c21 c22 c23 c24 c25 c26 c27 c28 c29 : Value) (b d0 d1 d2 d3 d4 : Int) (w : World) 
    (S1 : ∀ w, Calls Try.prog 21 #[.agg #[c0, c1, c2, c3, c4, c5, c6, c7, c8, .int .i64 b, .int .i64 d0, .int .i64 d1, .int .i64 d2, .int .i64 d3, .int .i64 d4, c15, c16, c17, c18, c19, c20, c21, c22, c23, c24, c25, c26, c27, c28, c29]] w fun e w' => e = .returned (.tuple #[.agg #[.int .i64 4, .int .i64 4, .int .i64 4, .int .i64 4, .int .i64 4, .int .i64 4], .int .i64 0]) ∧ Below w.heap.size w w')
    (L1 : ∀ w, Calls Try.prog 23 #[.agg #[c0, c1, c2, c3, c4, c5, c6, c7, c8, .int .i64 b, .int .i64 d0, .int .i64 d1, .int .i64 d2, .int .i64 d3, .int .i64 d4, c15, c16, c17, c18, c19, c20, c21, c22, c23, c24, c25, c26, c27, c28, c29]] w fun e w' => e = .returned (.bool true) ∧ Below w.heap.size w w') :
    Calls Try.prog 7 #[.int .i64 x, .int .i64 y, .agg #[c0, c1, c2, c3, c4, c5, c6, c7, c8, .int .i64 b, .int .i64 d0, .int .i64 d1, .int .i64 d2, .int .i64 d3, .int .i64 d4, c15, c16, c17, c18, c19, c20, c21, c22, c23, c24, c25, c26, c27, c28, c29]] w fun e w' => e = .returned (.bool true) ∧ Below w.heap.size w w' := by
  have T1 := Aside0.mk S1
  clear S1
  have T2 := Aside0.mk L1
  clear L1
  have W1 := Aside0.mk works_quiet
  have h0 : 0 ≤ x % 255 := by omega
  have h1 : x % 255 ≤ 254 := by omega
  have h2 : 0 ≤ y % 62 := by omega
  have h3 : y % 62 ≤ 61 := by omega
  have B1 := Aside0.mk (fun w => bring_any x 255 (by omega) (by omega) w)
  have B2 := Aside0.mk (fun w => bring_any y 62 (by omega) (by omega) w)
  generalize x % 255 = u at *
  generalize y % 62 = v at *
  have o1 : okb u (v - 31) = true := okb_iff.2 (by omega)
  have o2 : okb (u + 1) (v - 31) = true := okb_iff.2 (by omega)
  have o3 : okb u (v - 31 + 1) = true := okb_iff.2 (by omega)
  have D1 := Aside0.mk (fun w => Dc_ok u (v - 31) o1 w)
  have D2 := Aside0.mk (fun w => Dc_ok (u + 1) (v - 31) o2 w)
  have D3 := Aside0.mk (fun w => Dc_ok u (v - 31 + 1) o3 w)
  have A1 := Aside0.mk (fun w => Ac_ok u (v - 31) o1 w)
  have A2 := Aside0.mk (fun w => Ac_ok (u + 1) (v - 31) o2 w)
  have A3 := Aside0.mk (fun w => Ac_ok u (v - 31 + 1) o3 w)
  have i1 := stp_mono (b := u) (d := v - 31) (b' := u + 1) (d' := v - 31) (p := 96) (by omega) (by omega)
  have i2 := stp_mono (b := u) (d := v - 31) (b' := u) (d' := v - 31 + 1) (p := 96) (by omega) (by omega)
  have i3 := stp_mono (b := u) (d := v - 31) (b' := u + 1) (d' := v - 31) (p := 48) (by omega) (by omega)
  have i4 := stp_mono (b := u) (d := v - 31) (b' := u) (d' := v - 31 + 1) (p := 48) (by omega) (by omega)
  have i5 := (stp_ac u (v - 31)).1
  have i6 := (stp_ac (u + 1) (v - 31)).2
  have i7 := (stp_in (b := u) (d := v - 31) (p := 96) (by omega)).1
  clear o1 o2 o3
  generalize stp u (v - 31) 96 = s1 at *
  generalize stp (u + 1) (v - 31) 96 = s2 at *
  generalize stp u (v - 31 + 1) 96 = s3 at *
  generalize stp u (v - 31) 48 = s4 at *
  generalize stp (u + 1) (v - 31) 48 = s5 at *
  generalize stp u (v - 31 + 1) 48 = s6 at *
  have he : ∀ w, _ := eq2 9998 4 4 4 4
  simp only [beq_self_eq_true, Bool.and_self] at he
  go_enter Try.func7, Try.ntmps7
  go_wp2_with fail
  refine (W1.out _).mono ?_; rintro e w1 ⟨rfl, ⟨n0, rfl⟩⟩
  go_wp2_with fail
  refine (B1.out _).mono ?_; rintro e w1 ⟨rfl, ⟨n1, rfl⟩⟩
  go_wp2_with fail
  refine (B2.out _).mono ?_; rintro e w1 ⟨rfl, ⟨n2, rfl⟩⟩
  go_wp2_with fail
  refine (D1.out _).mono ?_; rintro e w1 ⟨rfl, ⟨n3, rfl⟩⟩
  go_wp2_with fail
  refine (D2.out _).mono ?_; rintro e w1 ⟨rfl, ⟨n4, rfl⟩⟩
  go_wp2_with fail
  refine (D3.out _).mono ?_; rintro e w1 ⟨rfl, ⟨n5, rfl⟩⟩
  go_wp2_with fail
  refine (A1.out _).mono ?_; rintro e w1 ⟨rfl, ⟨n6, rfl⟩⟩
  go_wp2_with fail
  refine (A2.out _).mono ?_; rintro e w1 ⟨rfl, ⟨n7, rfl⟩⟩
  go_wp2_with fail
  refine (A3.out _).mono ?_; rintro e w1 ⟨rfl, ⟨n8, rfl⟩⟩
  clear W1 B1 B2 D1 D2 D3 A1 A2 A3
  go_wp2_with (with_reducible refine wpList_load_row rfl 36 (.tmp 5) rfl _ rfl 36 _ (0, 0) _ (heap_dn w _ _) Try.underlying36 rfl (by kernel_rfl) ?_)
  refine (T1.out _).mono ?_; rintro e w1 ⟨rfl, hb⟩
  have z1 : w.heap.size < w1.heap.size := by have := hb.size; simp at this; omega
  have g := Aside0.mk ((heap_alloc_old w1 (.cells #[.int .i64 4, .int .i64 4, .int .i64 4, .int .i64 4, .int .i64 4, .int .i64 4] 39) z1).trans ((hb.block w.heap.size (by simp)).trans (heap_dn w _ _)))
  have r := Aside0.mk (heap_alloc_new w1 (.cells #[.int .i64 4, .int .i64 4, .int .i64 4, .int .i64 4, .int .i64 4, .int .i64 4] 39))
  have HB := Aside0.mk (below_alloc (below_step (pw_below_drewN (below_alloc (Below.refl w.heap.size w) _) _) hb) (.cells #[.int .i64 4, .int .i64 4, .int .i64 4, .int .i64 4, .int .i64 4, .int .i64 4] 39))
  have za : w.heap.size < (w1.alloc (.cells #[.int .i64 4, .int .i64 4, .int .i64 4, .int .i64 4, .int .i64 4, .int .i64 4] 39)).heap.size := by simp; omega
  have zb : w1.heap.size < (w1.alloc (.cells #[.int .i64 4, .int .i64 4, .int .i64 4, .int .i64 4, .int .i64 4, .int .i64 4] 39)).heap.size := by simp
  clear hb z1
  go_wp2_with fail
  generalize hW : w1.alloc (.cells #[.int .i64 4, .int .i64 4, .int .i64 4, .int .i64 4, .int .i64 4, .int .i64 4] 39) = W0 at *
  generalize w1.heap.size = R at *
  clear hW
  refine wp_loop_rounds 4 ?_
  have q0 := cell_of_row W0 R 0 _ _ _ r.out
  have q1 := cell_of_row W0 R 1 _ _ _ r.out
  simp at q0 q1
  rw [rounds_succ]
  go_wp2_with (with_reducible refine g_load (by go_simp) 36 (.tmp 5) rfl _ rfl 36 _ (0, 0) _ g.out Try.underlying36 rfl (by kernel_rfl) ?_)
  refine (T2.out _).mono ?_; rintro e W1 ⟨rfl, hb⟩
  have g' := Aside0.mk ((hb.block _ za).trans g.out)
  have r' := Aside0.mk ((hb.block _ zb).trans r.out)
  have HB' := Aside0.mk (below_step HB.out hb)
  have za' := Nat.lt_of_lt_of_le za hb.size
  have zb' := Nat.lt_of_lt_of_le zb hb.size
  clear g r HB za zb hb q0 q1
  have g := g'
  have r := r'
  have HB := HB'
  have za := za'
  have zb := zb'
  clear g' r' HB' za' zb'
  have q0 := cell_of_row W1 R 0 _ _ _ r.out
  have q1 := cell_of_row W1 R 1 _ _ _ r.out
  simp at q0 q1
  go_wp2_with fail
  clear q0 q1
  have q0 := cell_of_row W1 R 2 _ _ _ r.out
  have q1 := cell_of_row W1 R 3 _ _ _ r.out
  simp at q0 q1
  rw [rounds_succ]
  go_wp2_with (with_reducible refine g_load (by go_simp) 36 (.tmp 5) rfl _ rfl 36 _ (0, 0) _ g.out Try.underlying36 rfl (by kernel_rfl) ?_)
  refine (T2.out _).mono ?_; rintro e W2 ⟨rfl, hb⟩
  have g' := Aside0.mk ((hb.block _ za).trans g.out)
  have r' := Aside0.mk ((hb.block _ zb).trans r.out)
  have HB' := Aside0.mk (below_step HB.out hb)
  have za' := Nat.lt_of_lt_of_le za hb.size
  have zb' := Nat.lt_of_lt_of_le zb hb.size
  clear g r HB za zb hb q0 q1
  have g := g'
  have r := r'
  have HB := HB'
  have za := za'
  have zb := zb'
  clear g' r' HB' za' zb'
  have q0 := cell_of_row W2 R 2 _ _ _ r.out
  have q1 := cell_of_row W2 R 3 _ _ _ r.out
  simp at q0 q1
  go_wp2_with fail
  clear q0 q1
  have q0 := cell_of_row W2 R 4 _ _ _ r.out
  have q1 := cell_of_row W2 R 5 _ _ _ r.out
  simp at q0 q1
  rw [rounds_succ]
  go_wp2_with (with_reducible refine g_load (by go_simp) 36 (.tmp 5) rfl _ rfl 36 _ (0, 0) _ g.out Try.underlying36 rfl (by kernel_rfl) ?_)
  refine (T2.out _).mono ?_; rintro e W3 ⟨rfl, hb⟩
  have g' := Aside0.mk ((hb.block _ za).trans g.out)
  have r' := Aside0.mk ((hb.block _ zb).trans r.out)
  have HB' := Aside0.mk (below_step HB.out hb)
  have za' := Nat.lt_of_lt_of_le za hb.size
  have zb' := Nat.lt_of_lt_of_le zb hb.size
  clear g r HB za zb hb q0 q1
  have g := g'
  have r := r'
  have HB := HB'
  have za := za'
  have zb := zb'
  clear g' r' HB' za' zb'
  have q0 := cell_of_row W3 R 4 _ _ _ r.out
  have q1 := cell_of_row W3 R 5 _ _ _ r.out
  simp at q0 q1
  go_wp2_with fail
  clear q0 q1
  rw [rounds_succ]
  go_wp2_with fail
  go_ret
  exact ⟨rfl, HB.out⟩

theorem law_rise (x y : Int) (c0 c1 c2 c3 c4 c5 c6 c7 c8 c15 c16 c17 c18 c19 c20 c21 c22 c23 c24 c25 c26 c27 c28 c29 : Value) (b d0 d1 d2 d3 d4 : Int) (w : World) : Calls Try.prog 7 #[.int .i64 x, .int .i64 y, .agg #[c0, c1, c2, c3, c4, c5, c6, c7, c8, .int .i64 b, .int .i64 d0, .int .i64 d1, .int .i64 d2, .int .i64 d3, .int .i64 d4, c15, c16, c17, c18, c19, c20, c21, c22, c23, c24, c25, c26, c27, c28, c29]] w fun e w' => e = .returned (.bool true) ∧ Below w.heap.size w w' := by
  have S1 : ∀ w, _ := fun w => steps_any c0 c1 c2 c3 c4 c5 c6 c7 c8 c15 c16 c17 c18 c19 c20 c21 c22 c23 c24 c25 c26 c27 c28 c29 b d0 d1 d2 d3 d4 w
  have L1 : ∀ w, _ := fun w => loss23 c0 c1 c2 c3 c4 c5 c6 c7 c8 c15 c16 c17 c18 c19 c20 c21 c22 c23 c24 c25 c26 c27 c28 c29 b d0 d1 d2 d3 d4 w
  cases hn : none5 b d0 d1 d2 d3 d4 with
  | true =>
    obtain ⟨rfl, rfl, rfl, rfl, rfl, rfl⟩ := loss_zero hn
    rw [hn] at L1
    have e1 : six 0 0 0 0 0 0 = #[.int .i64 4, .int .i64 4, .int .i64 4, .int .i64 4, .int .i64 4, .int .i64 4] := by rfl
    have e2 : err 0 0 0 0 0 0 = 0 := by decide
    rw [e1, e2] at S1
    exact rise_none x y c0 c1 c2 c3 c4 c5 c6 c7 c8 c15 c16 c17 c18 c19 c20 c21 c22 c23 c24 c25 c26 c27 c28 c29 0 0 0 0 0 0 w S1 L1
  | false =>
    rw [hn] at L1
    cases ho : okAll b d0 d1 d2 d3 d4 with
    | false =>
      obtain ⟨e1, e2⟩ := six_bad ho
      rw [e1, e2] at S1
      exact rise_bad x y c0 c1 c2 c3 c4 c5 c6 c7 c8 c15 c16 c17 c18 c19 c20 c21 c22 c23 c24 c25 c26 c27 c28 c29 b d0 d1 d2 d3 d4 w S1
    | true =>
      obtain ⟨e1, e2⟩ := six_good ho
      rw [e1, e2] at S1
      exact rise_ok x y c0 c1 c2 c3 c4 c5 c6 c7 c8 c15 c16 c17 c18 c19 c20 c21 c22 c23 c24 c25 c26 c27 c28 c29 b d0 d1 d2 d3 d4 w _ _ _ _ _ _ (stp_in (by omega)).1 (stp_in (by omega)).1 (stp_in (by omega)).1 (stp_in (by omega)).1 (stp_in (by omega)).1 (stp_in (by omega)).1 S1 L1
end Go.Proofs.Ytgflgeblimiocaa.St
