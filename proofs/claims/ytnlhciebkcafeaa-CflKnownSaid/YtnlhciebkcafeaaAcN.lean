/- The walk of cfl.Ac where the block or the samples are not in order: ErrArg. -/
import Derived.Test.YtnlhciebkcafeaaCp
namespace Go.Proofs.Ytnlhciebkcafeaa.Ac
open Go.RowKit Go.Proofs.Ytnlhciebkcafeaa.PCflAcs Go.Proofs.YtnlhciebkcafeaaW.PrintWords Go.Proofs.YtnlhciebkcafeaaW.PrintLast Go.Proofs.YtnlhciebkcafeaaW.PrintMore Go.Proofs.Ytnlhciebkcafeaa.Cf Go.Proofs.Ytnlhciebkcafeaa.Cp

theorem side_any (n : Int) (r : Bool) (hn : n ≤ 9223372036854775807) (h : sideB n = r) (w : World) : Calls Try.prog 22 #[.int .i64 n] w fun e w' => e = .returned (.bool r) ∧ Drawn0 w w' :=
  cfl_side.calls n r w (by rw [side_eq n hn, h])
set_option maxRecDepth 100000 in
set_option maxHeartbeats 1000000 in
theorem ac_no (A0 : Option Addr) (n c0 : Nat) (a1 a2 : Int) (w : World) (b1 : a1 ≤ 9223372036854775807) (b2 : a2 ≤ 9223372036854775807) (ho : (sideB a1 && (sideB a2 && decide ((n : Int) = 4 * a1 * a2))) = false) :
    Calls Try.prog 9 #[.slice A0 n c0, .int .i64 a1, .int .i64 a2] w fun e w' => e = .returned (.tuple #[.slice none 0 0, .int .i64 2]) ∧ Below w.heap.size w w' := by
  cases h1 : sideB a1 with
  | false =>
    have S1 := Aside0.mk (side_any a1 _ b1 h1)
    clear h1 ho
    go_enter Try.func9, Try.ntmps9
    go_wp2_with (go_at_call 22; (with_reducible refine (S1.out _).mono ?_); rintro e w' ⟨rfl, ⟨nd, rfl⟩⟩)
    go_ret2
    exact ⟨rfl, pw_below_drewN (Below.refl _ _) _⟩
  | true =>
    have S1 := Aside0.mk (side_any a1 _ b1 h1)
    cases h2 : sideB a2 with
    | false =>
      have S2 := Aside0.mk (side_any a2 _ b2 h2)
      clear h1 h2 ho
      go_enter Try.func9, Try.ntmps9
      go_wp2_with fail
      refine (S1.out _).mono ?_; rintro e w' ⟨rfl, ⟨nd, rfl⟩⟩
      go_wp2_with fail
      refine (S2.out _).mono ?_; rintro e w' ⟨rfl, ⟨nd2, rfl⟩⟩
      go_wp2_with fail
      go_ret2
      exact ⟨rfl, by repeat (with_reducible first | exact Below.refl _ _ | refine pw_below_drewN ?_ _)⟩
    | true =>
      have S2 := Aside0.mk (side_any a2 _ b2 h2)
      rw [h1, h2] at ho
      simp only [Bool.true_and, decide_eq_false_iff_not] at ho
      have a := sideB_iff.1 h1
      have b := sideB_iff.1 h2
      have p0 : 0 ≤ 4 * a1 * a2 := Int.mul_nonneg (by omega) (by omega)
      have p1 : 4 * a1 * a2 ≤ 128 * 32 := Int.mul_le_mul (by omega) b.2.2 (by omega) (by omega)
      have q1 : 4 ≤ a1 := a.2.1
      have q2 : a1 ≤ 32 := a.2.2
      have hne : ((n : Int) != 4 * a1 * a2) = true := bne_iff_ne.2 ho
      clear h1 h2 ho a b b1 b2
      go_enter Try.func9, Try.ntmps9
      go_wp2_with fail
      refine (S1.out _).mono ?_; rintro e w' ⟨rfl, ⟨nd, rfl⟩⟩
      go_wp2_with fail
      refine (S2.out _).mono ?_; rintro e w' ⟨rfl, ⟨nd2, rfl⟩⟩
      go_wp2_with fail
      go_ret2
      exact ⟨rfl, by repeat (with_reducible first | exact Below.refl _ _ | refine pw_below_drewN ?_ _)⟩
end Go.Proofs.Ytnlhciebkcafeaa.Ac
