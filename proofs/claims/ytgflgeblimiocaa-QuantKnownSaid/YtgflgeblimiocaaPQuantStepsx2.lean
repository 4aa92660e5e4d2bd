-- PRINTED BY print.sh 35421559b90ae4d0a3588c463048766b98c2df88dd9212a6774a882060cdf62d: not written by this session
import Derived.Test.YtgflgeblimiocaaPQuantStepsx0
import Derived.Test.YtgflgeblimiocaaPQuantStepsx1
namespace Go.Proofs.Ytgflgeblimiocaa.PQuantSteps
open Go.RowKit Go.Proofs.YtgflgeblimiocaaW.PrintWords Go.Proofs.YtgflgeblimiocaaW.PrintLast Go.Proofs.YtgflgeblimiocaaW.PrintMore
attribute [local go_sem] max2_int min2_int max_two min_two max_three min_three max_four min_four   -- for this text's walks alone
set_option linter.unusedVariables false
set_option linter.unusedSimpArgs false

/-! ### zoetroperef09_Ac: function 20 -/
def zoetroperef09_Ac.f (a0 : Int) (a1 : Int) : Option (Int × Int) := (zoetroperef09_may.f a0 a1).bind fun t127 => (if t127 = true then ((zoetroperef00_Clip.f (wrap64 (a0 + a1)) 0 255).bind fun t128 => (some (wrap64 ((wrap64 (4 + t128)) + (wrap64 (Int.tdiv (wrap64 (t128 * t128)) 48))), 0))) else (some (0, 2)))
set_option maxHeartbeats 8000000 in
set_option maxRecDepth 100000 in
theorem zoetroperef09_Ac.calls (a0 : Int) (a1 : Int) (r1 : Int) (r2 : Int) (w : World) (h : zoetroperef09_Ac.f a0 a1 = some (r1, r2)) :
    Calls Try.prog 20 #[.int .i64 a0, .int .i64 a1] w fun e w' => e = .returned (.tuple #[.int .i64 r1, .int .i64 r2]) ∧ Drawn0 w w' := by
  have H : ((zoetroperef09_may.f a0 a1).bind fun t127 => (if t127 = true then ((zoetroperef00_Clip.f (wrap64 (a0 + a1)) 0 255).bind fun t128 => (some (wrap64 ((wrap64 (4 + t128)) + (wrap64 (Int.tdiv (wrap64 (t128 * t128)) 48))), 0))) else (some (0, 2)))) = some (r1, r2) := h
  clear h
  replace H := Option.bind_eq_some_iff.mp H
  obtain ⟨t127, A30, H⟩ := H
  replace H : (if t127 = true then ((zoetroperef00_Clip.f (wrap64 (a0 + a1)) 0 255).bind fun t128 => (some (wrap64 ((wrap64 (4 + t128)) + (wrap64 (Int.tdiv (wrap64 (t128 * t128)) 48))), 0))) else (some (0, 2))) = some (r1, r2) := H
  have A3 := Aside0.mk A30
  clear A30
  by_cases c4 : t127 = true
  · subst c4
    have H1 : ((zoetroperef00_Clip.f (wrap64 (a0 + a1)) 0 255).bind fun t128 => (some (wrap64 ((wrap64 (4 + t128)) + (wrap64 (Int.tdiv (wrap64 (t128 * t128)) 48))), 0))) = some (r1, r2) := by rw [if_pos rfl] at H; exact H
    clear H
    have H := H1
    clear H1
    replace H := Option.bind_eq_some_iff.mp H
    obtain ⟨t128, A50, H⟩ := H
    replace H : (some (wrap64 ((wrap64 (4 + t128)) + (wrap64 (Int.tdiv (wrap64 (t128 * t128)) 48))), 0)) = some (r1, r2) := H
    have A5 := Aside0.mk A50
    clear A50
    simp only [Option.some.injEq, Prod.mk.injEq] at H
    obtain ⟨rfl, rfl⟩ := H
    go_enter Try.func20, Try.ntmps20
    go_wp2_with (first | ((with_reducible refine gate_callee (f := 32) rfl ?_); refine goesL_ (some 9) rfl rfl Try.func32 (by kernel_rfl) rfl #[.int .i64 a0, .int .i64 a1] rfl (by (try simp only [List.map_toArray, List.map_cons, List.map_nil]); first | done | rfl | (simp only [List.length_drop, List.length_take]; rfl)) ?_; (with_reducible refine (zoetroperef09_may.calls a0 a1 true _ A3.out).mono ?_); rintro e w' ⟨rfl, ⟨nd, rfl⟩⟩; refine ⟨_, rfl, ?_⟩) | ((with_reducible refine gate_callee (f := 30) rfl ?_); refine goesL_ (some 14) rfl rfl Try.func30 (by kernel_rfl) rfl #[.int .i64 (wrap64 (a0 + a1)), .int .i64 0, .int .i64 255] rfl (by (try simp only [List.map_toArray, List.map_cons, List.map_nil]); first | done | rfl | (simp only [List.length_drop, List.length_take]; rfl)) ?_; (with_reducible refine (zoetroperef00_Clip.calls (wrap64 (a0 + a1)) 0 255 t128 _ A5.out).mono ?_); rintro e w' ⟨rfl, ⟨nd, rfl⟩⟩; refine ⟨_, rfl, ?_⟩))
    go_ret2
    exact ⟨by first | rfl | (simp; done) | (simp [*]; done), by repeat (first | exact Drawn0.refl _ | apply Drawn0.step)⟩
  · replace c4 := Bool.eq_false_iff.mpr c4
    subst c4
    have H1 : (some (0, 2)) = some (r1, r2) := by rw [if_neg (show ¬ (false = true) by decide)] at H; exact H
    clear H
    have H := H1
    clear H1
    simp only [Option.some.injEq, Prod.mk.injEq] at H
    obtain ⟨rfl, rfl⟩ := H
    go_enter Try.func20, Try.ntmps20
    go_wp2_with (first | ((with_reducible refine gate_callee (f := 32) rfl ?_); refine goesL_ (some 9) rfl rfl Try.func32 (by kernel_rfl) rfl #[.int .i64 a0, .int .i64 a1] rfl (by (try simp only [List.map_toArray, List.map_cons, List.map_nil]); first | done | rfl | (simp only [List.length_drop, List.length_take]; rfl)) ?_; (with_reducible refine (zoetroperef09_may.calls a0 a1 false _ A3.out).mono ?_); rintro e w' ⟨rfl, ⟨nd, rfl⟩⟩; refine ⟨_, rfl, ?_⟩))
    go_ret2
    exact ⟨by first | rfl | (simp; done) | (simp [*]; done), by repeat (first | exact Drawn0.refl _ | apply Drawn0.step)⟩

-- NOT PRINTED: function 21 (quant_Steps)

-- NOT PRINTED: function 22 (zoetroperef09_Steps)

-- NOT PRINTED: function 23 (quant_Lossless)

-- NOT PRINTED: function 24 (zoetroperef09_Lossless)

-- NOT PRINTED: function 6 (zoetropelaw09_QuantSteps)

end Go.Proofs.Ytgflgeblimiocaa.PQuantSteps
