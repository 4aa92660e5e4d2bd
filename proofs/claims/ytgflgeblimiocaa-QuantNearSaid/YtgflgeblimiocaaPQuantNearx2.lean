-- PRINTED BY print.sh 35421559b90ae4d0a3588c463048766b98c2df88dd9212a6774a882060cdf62d: not written by this session
import Derived.Test.YtgflgeblimiocaaPQuantNearx0
import Derived.Test.YtgflgeblimiocaaPQuantNearx1
namespace Go.Proofs.Ytgflgeblimiocaa.PQuantNear
open Go.RowKit Go.Proofs.YtgflgeblimiocaaW.PrintWords Go.Proofs.YtgflgeblimiocaaW.PrintLast Go.Proofs.YtgflgeblimiocaaW.PrintMore
attribute [local go_sem] max2_int min2_int max_two min_two max_three min_three max_four min_four   -- for this text's walks alone
set_option linter.unusedVariables false
set_option linter.unusedSimpArgs false

/-! ### zoetropelaw09_QuantNear: function 4 -/
def zoetropelaw09_QuantNear.j0 : Nat → Int → Int → Int → Int → Bool → Option (Bool)
  | 0, _, _, _, _, _ => none
  | k + 1, x0, x1, x2, x9, x88 => if x88 = true then (some false) else ((zoetroperef00_Abs.f (wrap64 (x9 - x0))).bind fun t142 => ((zoetropelaw09_scale.f x2).bind fun t143 => ((zoetropelaw09_scale.f x2).bind fun t144 => (if (wrap64 (t142 * t143)) ≤ (wrap64 ((wrap64 (Int.tdiv x1 2)) + t144)) then (if x9 ≥ (-32768) then (if x9 ≤ 32767 then (if x9 = 0 then (some true) else (some ((decide (x0 < 0)) == (decide (x9 < 0))))) else (some false)) else (some false)) else (some false)))))
def zoetropelaw09_QuantNear.f (k : Nat) (a0 : Int) (a1 : Int) (a2 : Int) : Option (Bool) := (zoetropelaw09_works.f k).bind fun t125 => (if t125 = true then ((zoetroperef00_Bring.f a0 65536).bind fun t126 => ((zoetroperef00_Bring.f a1 32768).bind fun t127 => ((some (([4, 8, 16, 32, 64] : List Int) : List Int)).bind fun y128 => ((zoetroperef00_Bring.f a2 5).bind fun t131 => (if 0 ≤ t131 then (if t131 < (y128.length : Int) then ((quant_Level.f k (wrap64 (t126 - 32768)) (wrap64 (1 + t127)) (rd y128 t131)).bind fun bt133 => ((quant_Value.f k bt133.1 (wrap64 (1 + t127)) (rd y128 t131)).bind fun bt135 => ((quant_Level.f k (wrap64 (-(wrap64 (t126 - 32768)))) (wrap64 (1 + t127)) (rd y128 t131)).bind fun bt137 => ((quant_Value.f k (wrap64 (-bt133.1)) (wrap64 (1 + t127)) (rd y128 t131)).bind fun bt139 => (if bt133.2 = 0 then (if bt135.2 = 0 then (if bt137.2 = 0 then (if bt139.2 = 0 then (if bt137.1 = (wrap64 (-bt133.1)) then ((zoetroperef00_Abs.f bt135.1).bind fun t141 => (if t141 < 32767 then (zoetropelaw09_QuantNear.j0 k (wrap64 (t126 - 32768)) (wrap64 (1 + t127)) (rd y128 t131) bt135.1 (bt139.1 != (wrap64 (-bt135.1)))) else (zoetropelaw09_QuantNear.j0 k (wrap64 (t126 - 32768)) (wrap64 (1 + t127)) (rd y128 t131) bt135.1 false))) else (zoetropelaw09_QuantNear.j0 k (wrap64 (t126 - 32768)) (wrap64 (1 + t127)) (rd y128 t131) bt135.1 true)) else (zoetropelaw09_QuantNear.j0 k (wrap64 (t126 - 32768)) (wrap64 (1 + t127)) (rd y128 t131) bt135.1 true)) else (zoetropelaw09_QuantNear.j0 k (wrap64 (t126 - 32768)) (wrap64 (1 + t127)) (rd y128 t131) bt135.1 true)) else (zoetropelaw09_QuantNear.j0 k (wrap64 (t126 - 32768)) (wrap64 (1 + t127)) (rd y128 t131) bt135.1 true)) else (zoetropelaw09_QuantNear.j0 k (wrap64 (t126 - 32768)) (wrap64 (1 + t127)) (rd y128 t131) bt135.1 true)))))) else (none)) else (none)))))) else (some false))
theorem zoetropelaw09_QuantNear.mono_l : ∀ k, (∀ y0 y1 y2 y3 y4, LeO (zoetropelaw09_QuantNear.j0 k y0 y1 y2 y3 y4) (zoetropelaw09_QuantNear.j0 (k + 1) y0 y1 y2 y3 y4))
  | 0 => fun _ _ _ _ _ r h => by simp [zoetropelaw09_QuantNear.j0] at h
  | k + 1 => by
    have ih0 := zoetropelaw09_QuantNear.mono_l k
    · intro y0 y1 y2 y3 y4
      unfold zoetropelaw09_QuantNear.j0
      repeat' first
      | (with_reducible exact ih0 _ _ _ _ _)
      | (with_reducible exact quant_Level.mono _ _ _ _)
      | (with_reducible exact quant_Value.mono _ _ _ _)
      | (with_reducible exact zoetropelaw09_works.mono _)
      | (with_reducible exact LeO.refl _)
      | (with_reducible exact LeO.none _)
      | (with_reducible refine LeO.ite ?_ ?_)
      | (with_reducible refine LeO.bind ?_ (fun _ => ?_))
      | exact ih0 _ _ _ _ _
      | exact quant_Level.mono _ _ _ _
      | exact quant_Value.mono _ _ _ _
      | exact zoetropelaw09_works.mono _
      | exact LeO.none _
      | refine LeO.ite ?_ ?_
      | refine LeO.bind ?_ (fun _ => ?_)
theorem zoetropelaw09_QuantNear.mono : ∀ a0 a1 a2 k, LeO (zoetropelaw09_QuantNear.f k a0 a1 a2) (zoetropelaw09_QuantNear.f (k + 1) a0 a1 a2) := by
  intro a0 a1 a2 k
  have ih0 := zoetropelaw09_QuantNear.mono_l k
  unfold zoetropelaw09_QuantNear.f
  repeat' first
      | (with_reducible exact ih0 _ _ _ _ _)
      | (with_reducible exact quant_Level.mono _ _ _ _)
      | (with_reducible exact quant_Value.mono _ _ _ _)
      | (with_reducible exact zoetropelaw09_works.mono _)
      | (with_reducible exact LeO.refl _)
      | (with_reducible exact LeO.none _)
      | (with_reducible refine LeO.ite ?_ ?_)
      | (with_reducible refine LeO.bind ?_ (fun _ => ?_))
      | exact ih0 _ _ _ _ _
      | exact quant_Level.mono _ _ _ _
      | exact quant_Value.mono _ _ _ _
      | exact zoetropelaw09_works.mono _
      | exact LeO.none _
      | refine LeO.ite ?_ ?_
      | refine LeO.bind ?_ (fun _ => ?_)
set_option maxHeartbeats 8000000 in
set_option maxRecDepth 100000 in
theorem zoetropelaw09_QuantNear.calls (k : Nat) (a0 : Int) (a1 : Int) (a2 : Int) (r : Bool) (w : World) (h : zoetropelaw09_QuantNear.f k a0 a1 a2 = some r) :
    Calls Try.prog 4 #[.int .i64 a0, .int .i64 a1, .int .i64 a2] w fun e w' => e = .returned (.bool r) ∧ Below w.heap.size w w' := by
  have HB := Aside0.mk (Below.refl w.heap.size w)
  have H : ((zoetropelaw09_works.f k).bind fun t125 => (if t125 = true then ((zoetroperef00_Bring.f a0 65536).bind fun t126 => ((zoetroperef00_Bring.f a1 32768).bind fun t127 => ((some (([4, 8, 16, 32, 64] : List Int) : List Int)).bind fun y128 => ((zoetroperef00_Bring.f a2 5).bind fun t131 => (if 0 ≤ t131 then (if t131 < (y128.length : Int) then ((quant_Level.f k (wrap64 (t126 - 32768)) (wrap64 (1 + t127)) (rd y128 t131)).bind fun bt133 => ((quant_Value.f k bt133.1 (wrap64 (1 + t127)) (rd y128 t131)).bind fun bt135 => ((quant_Level.f k (wrap64 (-(wrap64 (t126 - 32768)))) (wrap64 (1 + t127)) (rd y128 t131)).bind fun bt137 => ((quant_Value.f k (wrap64 (-bt133.1)) (wrap64 (1 + t127)) (rd y128 t131)).bind fun bt139 => (if bt133.2 = 0 then (if bt135.2 = 0 then (if bt137.2 = 0 then (if bt139.2 = 0 then (if bt137.1 = (wrap64 (-bt133.1)) then ((zoetroperef00_Abs.f bt135.1).bind fun t141 => (if t141 < 32767 then (zoetropelaw09_QuantNear.j0 k (wrap64 (t126 - 32768)) (wrap64 (1 + t127)) (rd y128 t131) bt135.1 (bt139.1 != (wrap64 (-bt135.1)))) else (zoetropelaw09_QuantNear.j0 k (wrap64 (t126 - 32768)) (wrap64 (1 + t127)) (rd y128 t131) bt135.1 false))) else (zoetropelaw09_QuantNear.j0 k (wrap64 (t126 - 32768)) (wrap64 (1 + t127)) (rd y128 t131) bt135.1 true)) else (zoetropelaw09_QuantNear.j0 k (wrap64 (t126 - 32768)) (wrap64 (1 + t127)) (rd y128 t131) bt135.1 true)) else (zoetropelaw09_QuantNear.j0 k (wrap64 (t126 - 32768)) (wrap64 (1 + t127)) (rd y128 t131) bt135.1 true)) else (zoetropelaw09_QuantNear.j0 k (wrap64 (t126 - 32768)) (wrap64 (1 + t127)) (rd y128 t131) bt135.1 true)) else (zoetropelaw09_QuantNear.j0 k (wrap64 (t126 - 32768)) (wrap64 (1 + t127)) (rd y128 t131) bt135.1 true)))))) else (none)) else (none)))))) else (some false))) = some r := h
  clear h
  replace H := Option.bind_eq_some_iff.mp H
  obtain ⟨t125, A40, H⟩ := H
  replace H : (if t125 = true then ((zoetroperef00_Bring.f a0 65536).bind fun t126 => ((zoetroperef00_Bring.f a1 32768).bind fun t127 => ((some (([4, 8, 16, 32, 64] : List Int) : List Int)).bind fun y128 => ((zoetroperef00_Bring.f a2 5).bind fun t131 => (if 0 ≤ t131 then (if t131 < (y128.length : Int) then ((quant_Level.f k (wrap64 (t126 - 32768)) (wrap64 (1 + t127)) (rd y128 t131)).bind fun bt133 => ((quant_Value.f k bt133.1 (wrap64 (1 + t127)) (rd y128 t131)).bind fun bt135 => ((quant_Level.f k (wrap64 (-(wrap64 (t126 - 32768)))) (wrap64 (1 + t127)) (rd y128 t131)).bind fun bt137 => ((quant_Value.f k (wrap64 (-bt133.1)) (wrap64 (1 + t127)) (rd y128 t131)).bind fun bt139 => (if bt133.2 = 0 then (if bt135.2 = 0 then (if bt137.2 = 0 then (if bt139.2 = 0 then (if bt137.1 = (wrap64 (-bt133.1)) then ((zoetroperef00_Abs.f bt135.1).bind fun t141 => (if t141 < 32767 then (zoetropelaw09_QuantNear.j0 k (wrap64 (t126 - 32768)) (wrap64 (1 + t127)) (rd y128 t131) bt135.1 (bt139.1 != (wrap64 (-bt135.1)))) else (zoetropelaw09_QuantNear.j0 k (wrap64 (t126 - 32768)) (wrap64 (1 + t127)) (rd y128 t131) bt135.1 false))) else (zoetropelaw09_QuantNear.j0 k (wrap64 (t126 - 32768)) (wrap64 (1 + t127)) (rd y128 t131) bt135.1 true)) else (zoetropelaw09_QuantNear.j0 k (wrap64 (t126 - 32768)) (wrap64 (1 + t127)) (rd y128 t131) bt135.1 true)) else (zoetropelaw09_QuantNear.j0 k (wrap64 (t126 - 32768)) (wrap64 (1 + t127)) (rd y128 t131) bt135.1 true)) else (zoetropelaw09_QuantNear.j0 k (wrap64 (t126 - 32768)) (wrap64 (1 + t127)) (rd y128 t131) bt135.1 true)) else (zoetropelaw09_QuantNear.j0 k (wrap64 (t126 - 32768)) (wrap64 (1 + t127)) (rd y128 t131) bt135.1 true)))))) else (none)) else (none)))))) else (some false)) = some r := H
  have A4 := Aside0.mk A40
  clear A40
  by_cases c5 : t125 = true
  · subst c5
    have H1 : ((zoetroperef00_Bring.f a0 65536).bind fun t126 => ((zoetroperef00_Bring.f a1 32768).bind fun t127 => ((some (([4, 8, 16, 32, 64] : List Int) : List Int)).bind fun y128 => ((zoetroperef00_Bring.f a2 5).bind fun t131 => (if 0 ≤ t131 then (if t131 < (y128.length : Int) then ((quant_Level.f k (wrap64 (t126 - 32768)) (wrap64 (1 + t127)) (rd y128 t131)).bind fun bt133 => ((quant_Value.f k bt133.1 (wrap64 (1 + t127)) (rd y128 t131)).bind fun bt135 => ((quant_Level.f k (wrap64 (-(wrap64 (t126 - 32768)))) (wrap64 (1 + t127)) (rd y128 t131)).bind fun bt137 => ((quant_Value.f k (wrap64 (-bt133.1)) (wrap64 (1 + t127)) (rd y128 t131)).bind fun bt139 => (if bt133.2 = 0 then (if bt135.2 = 0 then (if bt137.2 = 0 then (if bt139.2 = 0 then (if bt137.1 = (wrap64 (-bt133.1)) then ((zoetroperef00_Abs.f bt135.1).bind fun t141 => (if t141 < 32767 then (zoetropelaw09_QuantNear.j0 k (wrap64 (t126 - 32768)) (wrap64 (1 + t127)) (rd y128 t131) bt135.1 (bt139.1 != (wrap64 (-bt135.1)))) else (zoetropelaw09_QuantNear.j0 k (wrap64 (t126 - 32768)) (wrap64 (1 + t127)) (rd y128 t131) bt135.1 false))) else (zoetropelaw09_QuantNear.j0 k (wrap64 (t126 - 32768)) (wrap64 (1 + t127)) (rd y128 t131) bt135.1 true)) else (zoetropelaw09_QuantNear.j0 k (wrap64 (t126 - 32768)) (wrap64 (1 + t127)) (rd y128 t131) bt135.1 true)) else (zoetropelaw09_QuantNear.j0 k (wrap64 (t126 - 32768)) (wrap64 (1 + t127)) (rd y128 t131) bt135.1 true)) else (zoetropelaw09_QuantNear.j0 k (wrap64 (t126 - 32768)) (wrap64 (1 + t127)) (rd y128 t131) bt135.1 true)) else (zoetropelaw09_QuantNear.j0 k (wrap64 (t126 - 32768)) (wrap64 (1 + t127)) (rd y128 t131) bt135.1 true)))))) else (none)) else (none)))))) = some r := by rw [if_pos rfl] at H; exact H
    clear H
    have H := H1
    clear H1
    replace H := Option.bind_eq_some_iff.mp H
    obtain ⟨t126, A60, H⟩ := H
    replace H : ((zoetroperef00_Bring.f a1 32768).bind fun t127 => ((some (([4, 8, 16, 32, 64] : List Int) : List Int)).bind fun y128 => ((zoetroperef00_Bring.f a2 5).bind fun t131 => (if 0 ≤ t131 then (if t131 < (y128.length : Int) then ((quant_Level.f k (wrap64 (t126 - 32768)) (wrap64 (1 + t127)) (rd y128 t131)).bind fun bt133 => ((quant_Value.f k bt133.1 (wrap64 (1 + t127)) (rd y128 t131)).bind fun bt135 => ((quant_Level.f k (wrap64 (-(wrap64 (t126 - 32768)))) (wrap64 (1 + t127)) (rd y128 t131)).bind fun bt137 => ((quant_Value.f k (wrap64 (-bt133.1)) (wrap64 (1 + t127)) (rd y128 t131)).bind fun bt139 => (if bt133.2 = 0 then (if bt135.2 = 0 then (if bt137.2 = 0 then (if bt139.2 = 0 then (if bt137.1 = (wrap64 (-bt133.1)) then ((zoetroperef00_Abs.f bt135.1).bind fun t141 => (if t141 < 32767 then (zoetropelaw09_QuantNear.j0 k (wrap64 (t126 - 32768)) (wrap64 (1 + t127)) (rd y128 t131) bt135.1 (bt139.1 != (wrap64 (-bt135.1)))) else (zoetropelaw09_QuantNear.j0 k (wrap64 (t126 - 32768)) (wrap64 (1 + t127)) (rd y128 t131) bt135.1 false))) else (zoetropelaw09_QuantNear.j0 k (wrap64 (t126 - 32768)) (wrap64 (1 + t127)) (rd y128 t131) bt135.1 true)) else (zoetropelaw09_QuantNear.j0 k (wrap64 (t126 - 32768)) (wrap64 (1 + t127)) (rd y128 t131) bt135.1 true)) else (zoetropelaw09_QuantNear.j0 k (wrap64 (t126 - 32768)) (wrap64 (1 + t127)) (rd y128 t131) bt135.1 true)) else (zoetropelaw09_QuantNear.j0 k (wrap64 (t126 - 32768)) (wrap64 (1 + t127)) (rd y128 t131) bt135.1 true)) else (zoetropelaw09_QuantNear.j0 k (wrap64 (t126 - 32768)) (wrap64 (1 + t127)) (rd y128 t131) bt135.1 true)))))) else (none)) else (none))))) = some r := H
    have A6 := Aside0.mk A60
    clear A60
    replace H := Option.bind_eq_some_iff.mp H
    obtain ⟨t127, A70, H⟩ := H
    replace H : ((some (([4, 8, 16, 32, 64] : List Int) : List Int)).bind fun y128 => ((zoetroperef00_Bring.f a2 5).bind fun t131 => (if 0 ≤ t131 then (if t131 < (y128.length : Int) then ((quant_Level.f k (wrap64 (t126 - 32768)) (wrap64 (1 + t127)) (rd y128 t131)).bind fun bt133 => ((quant_Value.f k bt133.1 (wrap64 (1 + t127)) (rd y128 t131)).bind fun bt135 => ((quant_Level.f k (wrap64 (-(wrap64 (t126 - 32768)))) (wrap64 (1 + t127)) (rd y128 t131)).bind fun bt137 => ((quant_Value.f k (wrap64 (-bt133.1)) (wrap64 (1 + t127)) (rd y128 t131)).bind fun bt139 => (if bt133.2 = 0 then (if bt135.2 = 0 then (if bt137.2 = 0 then (if bt139.2 = 0 then (if bt137.1 = (wrap64 (-bt133.1)) then ((zoetroperef00_Abs.f bt135.1).bind fun t141 => (if t141 < 32767 then (zoetropelaw09_QuantNear.j0 k (wrap64 (t126 - 32768)) (wrap64 (1 + t127)) (rd y128 t131) bt135.1 (bt139.1 != (wrap64 (-bt135.1)))) else (zoetropelaw09_QuantNear.j0 k (wrap64 (t126 - 32768)) (wrap64 (1 + t127)) (rd y128 t131) bt135.1 false))) else (zoetropelaw09_QuantNear.j0 k (wrap64 (t126 - 32768)) (wrap64 (1 + t127)) (rd y128 t131) bt135.1 true)) else (zoetropelaw09_QuantNear.j0 k (wrap64 (t126 - 32768)) (wrap64 (1 + t127)) (rd y128 t131) bt135.1 true)) else (zoetropelaw09_QuantNear.j0 k (wrap64 (t126 - 32768)) (wrap64 (1 + t127)) (rd y128 t131) bt135.1 true)) else (zoetropelaw09_QuantNear.j0 k (wrap64 (t126 - 32768)) (wrap64 (1 + t127)) (rd y128 t131) bt135.1 true)) else (zoetropelaw09_QuantNear.j0 k (wrap64 (t126 - 32768)) (wrap64 (1 + t127)) (rd y128 t131) bt135.1 true)))))) else (none)) else (none)))) = some r := H
    have A7 := Aside0.mk A70
    clear A70
    obtain ⟨y128, hy128⟩ : ∃ y_ : List Int, y_ = (([4, 8, 16, 32, 64] : List Int)) := ⟨_, rfl⟩
    replace H : ((zoetroperef00_Bring.f a2 5).bind fun t131 => (if 0 ≤ t131 then (if t131 < (y128.length : Int) then ((quant_Level.f k (wrap64 (t126 - 32768)) (wrap64 (1 + t127)) (rd y128 t131)).bind fun bt133 => ((quant_Value.f k bt133.1 (wrap64 (1 + t127)) (rd y128 t131)).bind fun bt135 => ((quant_Level.f k (wrap64 (-(wrap64 (t126 - 32768)))) (wrap64 (1 + t127)) (rd y128 t131)).bind fun bt137 => ((quant_Value.f k (wrap64 (-bt133.1)) (wrap64 (1 + t127)) (rd y128 t131)).bind fun bt139 => (if bt133.2 = 0 then (if bt135.2 = 0 then (if bt137.2 = 0 then (if bt139.2 = 0 then (if bt137.1 = (wrap64 (-bt133.1)) then ((zoetroperef00_Abs.f bt135.1).bind fun t141 => (if t141 < 32767 then (zoetropelaw09_QuantNear.j0 k (wrap64 (t126 - 32768)) (wrap64 (1 + t127)) (rd y128 t131) bt135.1 (bt139.1 != (wrap64 (-bt135.1)))) else (zoetropelaw09_QuantNear.j0 k (wrap64 (t126 - 32768)) (wrap64 (1 + t127)) (rd y128 t131) bt135.1 false))) else (zoetropelaw09_QuantNear.j0 k (wrap64 (t126 - 32768)) (wrap64 (1 + t127)) (rd y128 t131) bt135.1 true)) else (zoetropelaw09_QuantNear.j0 k (wrap64 (t126 - 32768)) (wrap64 (1 + t127)) (rd y128 t131) bt135.1 true)) else (zoetropelaw09_QuantNear.j0 k (wrap64 (t126 - 32768)) (wrap64 (1 + t127)) (rd y128 t131) bt135.1 true)) else (zoetropelaw09_QuantNear.j0 k (wrap64 (t126 - 32768)) (wrap64 (1 + t127)) (rd y128 t131) bt135.1 true)) else (zoetropelaw09_QuantNear.j0 k (wrap64 (t126 - 32768)) (wrap64 (1 + t127)) (rd y128 t131) bt135.1 true)))))) else (none)) else (none))) = some r := by first | (rw [hy128]; with_reducible exact H) | (have H2_ := (Option.bind_some _ _).symm.trans H; rw [hy128]; with_reducible exact H2_) | (have H2_ := (Option.bind_some _ _).symm.trans H; with_reducible exact H2_) | with_reducible exact H | (rw [hy128]; exact H) | exact H
    have Ny128 := Aside0.mk hy128
    clear hy128
    replace H := Option.bind_eq_some_iff.mp H
    obtain ⟨t131, A80, H⟩ := H
    replace H : (if 0 ≤ t131 then (if t131 < (y128.length : Int) then ((quant_Level.f k (wrap64 (t126 - 32768)) (wrap64 (1 + t127)) (rd y128 t131)).bind fun bt133 => ((quant_Value.f k bt133.1 (wrap64 (1 + t127)) (rd y128 t131)).bind fun bt135 => ((quant_Level.f k (wrap64 (-(wrap64 (t126 - 32768)))) (wrap64 (1 + t127)) (rd y128 t131)).bind fun bt137 => ((quant_Value.f k (wrap64 (-bt133.1)) (wrap64 (1 + t127)) (rd y128 t131)).bind fun bt139 => (if bt133.2 = 0 then (if bt135.2 = 0 then (if bt137.2 = 0 then (if bt139.2 = 0 then (if bt137.1 = (wrap64 (-bt133.1)) then ((zoetroperef00_Abs.f bt135.1).bind fun t141 => (if t141 < 32767 then (zoetropelaw09_QuantNear.j0 k (wrap64 (t126 - 32768)) (wrap64 (1 + t127)) (rd y128 t131) bt135.1 (bt139.1 != (wrap64 (-bt135.1)))) else (zoetropelaw09_QuantNear.j0 k (wrap64 (t126 - 32768)) (wrap64 (1 + t127)) (rd y128 t131) bt135.1 false))) else (zoetropelaw09_QuantNear.j0 k (wrap64 (t126 - 32768)) (wrap64 (1 + t127)) (rd y128 t131) bt135.1 true)) else (zoetropelaw09_QuantNear.j0 k (wrap64 (t126 - 32768)) (wrap64 (1 + t127)) (rd y128 t131) bt135.1 true)) else (zoetropelaw09_QuantNear.j0 k (wrap64 (t126 - 32768)) (wrap64 (1 + t127)) (rd y128 t131) bt135.1 true)) else (zoetropelaw09_QuantNear.j0 k (wrap64 (t126 - 32768)) (wrap64 (1 + t127)) (rd y128 t131) bt135.1 true)) else (zoetropelaw09_QuantNear.j0 k (wrap64 (t126 - 32768)) (wrap64 (1 + t127)) (rd y128 t131) bt135.1 true)))))) else (none)) else (none)) = some r := H
    have A8 := Aside0.mk A80
    clear A80
    by_cases c9 : 0 ≤ t131
    · rw [if_pos c9] at H
      have c9b0 : decide (0 ≤ t131) = true := decide_eq_true c9
      clear c9
      by_cases c10 : t131 < (y128.length : Int)
      · rw [if_pos c10] at H
        have c10b0 : decide (t131 < (y128.length : Int)) = true := decide_eq_true c10
        clear c10
        replace H := Option.bind_eq_some_iff.mp H
        obtain ⟨⟨t133, t134⟩, A110, H⟩ := H
        replace H : ((quant_Value.f k t133 (wrap64 (1 + t127)) (rd y128 t131)).bind fun bt135 => ((quant_Level.f k (wrap64 (-(wrap64 (t126 - 32768)))) (wrap64 (1 + t127)) (rd y128 t131)).bind fun bt137 => ((quant_Value.f k (wrap64 (-t133)) (wrap64 (1 + t127)) (rd y128 t131)).bind fun bt139 => (if t134 = 0 then (if bt135.2 = 0 then (if bt137.2 = 0 then (if bt139.2 = 0 then (if bt137.1 = (wrap64 (-t133)) then ((zoetroperef00_Abs.f bt135.1).bind fun t141 => (if t141 < 32767 then (zoetropelaw09_QuantNear.j0 k (wrap64 (t126 - 32768)) (wrap64 (1 + t127)) (rd y128 t131) bt135.1 (bt139.1 != (wrap64 (-bt135.1)))) else (zoetropelaw09_QuantNear.j0 k (wrap64 (t126 - 32768)) (wrap64 (1 + t127)) (rd y128 t131) bt135.1 false))) else (zoetropelaw09_QuantNear.j0 k (wrap64 (t126 - 32768)) (wrap64 (1 + t127)) (rd y128 t131) bt135.1 true)) else (zoetropelaw09_QuantNear.j0 k (wrap64 (t126 - 32768)) (wrap64 (1 + t127)) (rd y128 t131) bt135.1 true)) else (zoetropelaw09_QuantNear.j0 k (wrap64 (t126 - 32768)) (wrap64 (1 + t127)) (rd y128 t131) bt135.1 true)) else (zoetropelaw09_QuantNear.j0 k (wrap64 (t126 - 32768)) (wrap64 (1 + t127)) (rd y128 t131) bt135.1 true)) else (zoetropelaw09_QuantNear.j0 k (wrap64 (t126 - 32768)) (wrap64 (1 + t127)) (rd y128 t131) bt135.1 true))))) = some r := H
        have A11 := Aside0.mk A110
        clear A110
        replace H := Option.bind_eq_some_iff.mp H
        obtain ⟨⟨t135, t136⟩, A120, H⟩ := H
        replace H : ((quant_Level.f k (wrap64 (-(wrap64 (t126 - 32768)))) (wrap64 (1 + t127)) (rd y128 t131)).bind fun bt137 => ((quant_Value.f k (wrap64 (-t133)) (wrap64 (1 + t127)) (rd y128 t131)).bind fun bt139 => (if t134 = 0 then (if t136 = 0 then (if bt137.2 = 0 then (if bt139.2 = 0 then (if bt137.1 = (wrap64 (-t133)) then ((zoetroperef00_Abs.f t135).bind fun t141 => (if t141 < 32767 then (zoetropelaw09_QuantNear.j0 k (wrap64 (t126 - 32768)) (wrap64 (1 + t127)) (rd y128 t131) t135 (bt139.1 != (wrap64 (-t135)))) else (zoetropelaw09_QuantNear.j0 k (wrap64 (t126 - 32768)) (wrap64 (1 + t127)) (rd y128 t131) t135 false))) else (zoetropelaw09_QuantNear.j0 k (wrap64 (t126 - 32768)) (wrap64 (1 + t127)) (rd y128 t131) t135 true)) else (zoetropelaw09_QuantNear.j0 k (wrap64 (t126 - 32768)) (wrap64 (1 + t127)) (rd y128 t131) t135 true)) else (zoetropelaw09_QuantNear.j0 k (wrap64 (t126 - 32768)) (wrap64 (1 + t127)) (rd y128 t131) t135 true)) else (zoetropelaw09_QuantNear.j0 k (wrap64 (t126 - 32768)) (wrap64 (1 + t127)) (rd y128 t131) t135 true)) else (zoetropelaw09_QuantNear.j0 k (wrap64 (t126 - 32768)) (wrap64 (1 + t127)) (rd y128 t131) t135 true)))) = some r := H
        have A12 := Aside0.mk A120
        clear A120
        replace H := Option.bind_eq_some_iff.mp H
        obtain ⟨⟨t137, t138⟩, A130, H⟩ := H
        replace H : ((quant_Value.f k (wrap64 (-t133)) (wrap64 (1 + t127)) (rd y128 t131)).bind fun bt139 => (if t134 = 0 then (if t136 = 0 then (if t138 = 0 then (if bt139.2 = 0 then (if t137 = (wrap64 (-t133)) then ((zoetroperef00_Abs.f t135).bind fun t141 => (if t141 < 32767 then (zoetropelaw09_QuantNear.j0 k (wrap64 (t126 - 32768)) (wrap64 (1 + t127)) (rd y128 t131) t135 (bt139.1 != (wrap64 (-t135)))) else (zoetropelaw09_QuantNear.j0 k (wrap64 (t126 - 32768)) (wrap64 (1 + t127)) (rd y128 t131) t135 false))) else (zoetropelaw09_QuantNear.j0 k (wrap64 (t126 - 32768)) (wrap64 (1 + t127)) (rd y128 t131) t135 true)) else (zoetropelaw09_QuantNear.j0 k (wrap64 (t126 - 32768)) (wrap64 (1 + t127)) (rd y128 t131) t135 true)) else (zoetropelaw09_QuantNear.j0 k (wrap64 (t126 - 32768)) (wrap64 (1 + t127)) (rd y128 t131) t135 true)) else (zoetropelaw09_QuantNear.j0 k (wrap64 (t126 - 32768)) (wrap64 (1 + t127)) (rd y128 t131) t135 true)) else (zoetropelaw09_QuantNear.j0 k (wrap64 (t126 - 32768)) (wrap64 (1 + t127)) (rd y128 t131) t135 true))) = some r := H
        have A13 := Aside0.mk A130
        clear A130
        replace H := Option.bind_eq_some_iff.mp H
        obtain ⟨⟨t139, t140⟩, A140, H⟩ := H
        replace H : (if t134 = 0 then (if t136 = 0 then (if t138 = 0 then (if t140 = 0 then (if t137 = (wrap64 (-t133)) then ((zoetroperef00_Abs.f t135).bind fun t141 => (if t141 < 32767 then (zoetropelaw09_QuantNear.j0 k (wrap64 (t126 - 32768)) (wrap64 (1 + t127)) (rd y128 t131) t135 (t139 != (wrap64 (-t135)))) else (zoetropelaw09_QuantNear.j0 k (wrap64 (t126 - 32768)) (wrap64 (1 + t127)) (rd y128 t131) t135 false))) else (zoetropelaw09_QuantNear.j0 k (wrap64 (t126 - 32768)) (wrap64 (1 + t127)) (rd y128 t131) t135 true)) else (zoetropelaw09_QuantNear.j0 k (wrap64 (t126 - 32768)) (wrap64 (1 + t127)) (rd y128 t131) t135 true)) else (zoetropelaw09_QuantNear.j0 k (wrap64 (t126 - 32768)) (wrap64 (1 + t127)) (rd y128 t131) t135 true)) else (zoetropelaw09_QuantNear.j0 k (wrap64 (t126 - 32768)) (wrap64 (1 + t127)) (rd y128 t131) t135 true)) else (zoetropelaw09_QuantNear.j0 k (wrap64 (t126 - 32768)) (wrap64 (1 + t127)) (rd y128 t131) t135 true)) = some r := H
        have A14 := Aside0.mk A140
        clear A140
        have HC15 := Aside0.mk H
        clear H
        go_enter Try.func4, Try.ntmps4
        go_upto_region 10 with (first | ((with_reducible refine gate_callee (f := 13) rfl ?_); refine goesL_ (some 15) rfl rfl Try.func13 (by kernel_rfl) rfl #[] rfl (by (try simp only [List.map_toArray, List.map_cons, List.map_nil]); first | done | rfl | (simp only [List.length_drop, List.length_take]; rfl)) ?_; (with_reducible refine (zoetropelaw09_works.calls k  true _ A4.out).mono ?_); rintro e w16 ⟨rfl, hb⟩; refine ⟨_, rfl, ?_⟩; have n0_ := Aside0.mk (below_step (by repeat (first | (with_reducible first | exact HB.out | apply below_alloc | apply pw_below_drewN | apply below_drew1) | exact HB.out)) hb); clear HB; have HB := n0_; clear n0_; (try clear hb); (try clear hb2); (try clear hk); (try clear hi)) | ((with_reducible refine gate_callee (f := 14) rfl ?_); refine goesL_ (some 18) rfl rfl Try.func14 (by kernel_rfl) rfl #[.int .i64 a0, .int .i64 65536] rfl (by (try simp only [List.map_toArray, List.map_cons, List.map_nil]); first | done | rfl | (simp only [List.length_drop, List.length_take]; rfl)) ?_; (with_reducible refine (zoetroperef00_Bring.calls a0 65536 t126 _ A6.out).mono ?_); rintro e w' ⟨rfl, ⟨nd, rfl⟩⟩; refine ⟨_, rfl, ?_⟩) | ((with_reducible refine gate_callee (f := 14) rfl ?_); refine goesL_ (some 21) rfl rfl Try.func14 (by kernel_rfl) rfl #[.int .i64 a1, .int .i64 32768] rfl (by (try simp only [List.map_toArray, List.map_cons, List.map_nil]); first | done | rfl | (simp only [List.length_drop, List.length_take]; rfl)) ?_; (with_reducible refine (zoetroperef00_Bring.calls a1 32768 t127 _ A7.out).mono ?_); rintro e w' ⟨rfl, ⟨nd, rfl⟩⟩; refine ⟨_, rfl, ?_⟩) | ((with_reducible refine gate_dst (N := 23) rfl ?_); refine Kd.R_lit (Kd.int .i64) _ 3 ?hg (N := 23) ?hd (xs := ([4, 8, 16, 32, 64] : List Int)) (inner := [.int .i64 4, .int .i64 8, .int .i64 16, .int .i64 32, .int .i64 64]) (ok := fun _ => True) (okp := fun _ => True) ?hr ?hp (fun _ hk => hk) trivial (Below.refl _ _) (Nat.le_refl _) (by simp) ?_; (case hd => rfl); (case hg => rfl); (case hr => first | (go_simp; done) | (go_simp; rfl)); (case hp => exact (Reps.one (show Kd.M (Kd.int .i64) _ _ _ 4 [.int .i64 4] from rfl) (Reps.one (show Kd.M (Kd.int .i64) _ _ _ 8 [.int .i64 8] from rfl) (Reps.one (show Kd.M (Kd.int .i64) _ _ _ 16 [.int .i64 16] from rfl) (Reps.one (show Kd.M (Kd.int .i64) _ _ _ 32 [.int .i64 32] from rfl) (Reps.one (show Kd.M (Kd.int .i64) _ _ _ 64 [.int .i64 64] from rfl) (Reps.none _ _))))))); intro v129 w17 ho18 hb hg_ hnew_; clear hg_ hnew_; (first | rw [← Ny128.out] at ho18 | (simp only [Int.reduceToNat] at ho18; rw [← Ny128.out] at ho18)); have n0_ := Aside0.mk (Kd.R_lower ho18 (below_size (by repeat (first | (with_reducible first | exact HB.out | apply below_alloc | apply pw_below_drewN | apply below_drew1) | exact HB.out)))); have n1_ := Aside0.mk (below_step (by repeat (first | (with_reducible first | exact HB.out | apply below_alloc | apply pw_below_drewN | apply below_drew1) | exact HB.out)) hb); clear HB; have HO130 := n0_; have HB := n1_; clear n0_ n1_; clear hb ho18) | ((with_reducible refine gate_callee (f := 14) rfl ?_); refine goesL_ (some 25) rfl rfl Try.func14 (by kernel_rfl) rfl #[.int .i64 a2, .int .i64 5] rfl (by (try simp only [List.map_toArray, List.map_cons, List.map_nil]); first | done | rfl | (simp only [List.length_drop, List.length_take]; rfl)) ?_; (with_reducible refine (zoetroperef00_Bring.calls a2 5 t131 _ A8.out).mono ?_); rintro e w' ⟨rfl, ⟨nd, rfl⟩⟩; refine ⟨_, rfl, ?_⟩; obtain ⟨Ao19, co19, eo19⟩ := Kd.R_slice HO130.out; subst eo19; have p132 : 0 ≤ (t131 : Int) := of_decide_eq_true (by first | (with_reducible assumption) | assumption); have q132 : t131 < (y128.length : Int) := of_decide_eq_true (by first | (with_reducible assumption) | assumption); obtain ⟨ad132, e132, hx132_0⟩ := Kd.at_int (Kd.R_reads' HO130.out).2.2 t131 p132 q132; cases e132; replace p132 := eq_true p132; replace q132 := eq_true q132) | ((with_reducible refine gate_callee (f := 9) rfl ?_); refine goesL_ (some 32) rfl rfl Try.func9 (by kernel_rfl) rfl #[.int .i64 (wrap64 (t126 - 32768)), .int .i64 (wrap64 (1 + t127)), .int .i64 (rd y128 t131)] rfl (by (try simp only [List.map_toArray, List.map_cons, List.map_nil]); first | done | rfl | (simp only [List.length_drop, List.length_take]; rfl)) ?_; (with_reducible refine (quant_Level.calls k (wrap64 (t126 - 32768)) (wrap64 (1 + t127)) (rd y128 t131) t133 t134 _ A11.out).mono ?_); rintro e w20 ⟨rfl, hb⟩; refine ⟨_, rfl, ?_⟩; have n0_ := Aside0.mk (Kd.R_below (by (with_reducible repeat (first | apply Kd.R_alloc | apply Kd.R_drewN | apply Kd.R_drew)); exact HO130.out) hb); have n1_ := Aside0.mk (below_step (by repeat (first | (with_reducible first | exact HB.out | apply below_alloc | apply pw_below_drewN | apply below_drew1) | exact HB.out)) hb); clear HO130; clear HB; have HO130 := n0_; have HB := n1_; clear n0_ n1_; (try clear hb); (try clear hb2); (try clear hk); (try clear hi)) | ((with_reducible refine gate_callee (f := 11) rfl ?_); refine goesL_ (some 39) rfl rfl Try.func11 (by kernel_rfl) rfl #[.int .i64 t133, .int .i64 (wrap64 (1 + t127)), .int .i64 (rd y128 t131)] rfl (by (try simp only [List.map_toArray, List.map_cons, List.map_nil]); first | done | rfl | (simp only [List.length_drop, List.length_take]; rfl)) ?_; (with_reducible refine (quant_Value.calls k t133 (wrap64 (1 + t127)) (rd y128 t131) t135 t136 _ A12.out).mono ?_); rintro e w21 ⟨rfl, hb⟩; refine ⟨_, rfl, ?_⟩; have n0_ := Aside0.mk (Kd.R_below (by (with_reducible repeat (first | apply Kd.R_alloc | apply Kd.R_drewN | apply Kd.R_drew)); exact HO130.out) hb); have n1_ := Aside0.mk (below_step (by repeat (first | (with_reducible first | exact HB.out | apply below_alloc | apply pw_below_drewN | apply below_drew1) | exact HB.out)) hb); clear HO130; clear HB; have HO130 := n0_; have HB := n1_; clear n0_ n1_; (try clear hb); (try clear hb2); (try clear hk); (try clear hi)) | ((with_reducible refine gate_callee (f := 9) rfl ?_); refine goesL_ (some 47) rfl rfl Try.func9 (by kernel_rfl) rfl #[.int .i64 (wrap64 (-(wrap64 (t126 - 32768)))), .int .i64 (wrap64 (1 + t127)), .int .i64 (rd y128 t131)] rfl (by (try simp only [List.map_toArray, List.map_cons, List.map_nil]); first | done | rfl | (simp only [List.length_drop, List.length_take]; rfl)) ?_; (with_reducible refine (quant_Level.calls k (wrap64 (-(wrap64 (t126 - 32768)))) (wrap64 (1 + t127)) (rd y128 t131) t137 t138 _ A13.out).mono ?_); rintro e w22 ⟨rfl, hb⟩; refine ⟨_, rfl, ?_⟩; have n0_ := Aside0.mk (Kd.R_below (by (with_reducible repeat (first | apply Kd.R_alloc | apply Kd.R_drewN | apply Kd.R_drew)); exact HO130.out) hb); have n1_ := Aside0.mk (below_step (by repeat (first | (with_reducible first | exact HB.out | apply below_alloc | apply pw_below_drewN | apply below_drew1) | exact HB.out)) hb); clear HO130; clear HB; have HO130 := n0_; have HB := n1_; clear n0_ n1_; (try clear hb); (try clear hb2); (try clear hk); (try clear hi)) | ((with_reducible refine gate_callee (f := 11) rfl ?_); refine goesL_ (some 55) rfl rfl Try.func11 (by kernel_rfl) rfl #[.int .i64 (wrap64 (-t133)), .int .i64 (wrap64 (1 + t127)), .int .i64 (rd y128 t131)] rfl (by (try simp only [List.map_toArray, List.map_cons, List.map_nil]); first | done | rfl | (simp only [List.length_drop, List.length_take]; rfl)) ?_; (with_reducible refine (quant_Value.calls k (wrap64 (-t133)) (wrap64 (1 + t127)) (rd y128 t131) t139 t140 _ A14.out).mono ?_); rintro e w23 ⟨rfl, hb⟩; refine ⟨_, rfl, ?_⟩; have n0_ := Aside0.mk (Kd.R_below (by (with_reducible repeat (first | apply Kd.R_alloc | apply Kd.R_drewN | apply Kd.R_drew)); exact HO130.out) hb); have n1_ := Aside0.mk (below_step (by repeat (first | (with_reducible first | exact HB.out | apply below_alloc | apply pw_below_drewN | apply below_drew1) | exact HB.out)) hb); clear HO130; clear HB; have HO130 := n0_; have HB := n1_; clear n0_ n1_; (try clear hb); (try clear hb2); (try clear hk); (try clear hi)))
        (try simp only [Act.put, List.setIfInBounds_toArray, List.set_cons_zero, List.set_cons_succ])
        go_cut [88] (fun v88 wc => ∃ (kq : Nat) (x88_14 : Bool), v88 = .bool x88_14 ∧ Aside0 (zoetropelaw09_QuantNear.j0 kq (wrap64 (t126 - 32768)) (wrap64 (1 + t127)) (rd y128 t131) t135 x88_14 = some r) ∧ Aside0 (kq ≤ k) ∧ Aside0 (Below w.heap.size w wc))
        case first =>
          have H := HC15.out
          clear HC15
          by_cases c24 : t134 = 0
          · rw [if_pos c24] at H
            have c24b0 : (t134 == 0) = true := beq_iff_eq.mpr c24
            have c24b1 : (t134 != 0) = false := bne_eq_false_iff_eq.mpr c24
            clear c24
            (first | rw [c24b0] | (simp only [i64_w, i32_w]; rw [c24b0]) | skip)
            by_cases c25 : t136 = 0
            · rw [if_pos c25] at H
              have c25b0 : (t136 == 0) = true := beq_iff_eq.mpr c25
              have c25b1 : (t136 != 0) = false := bne_eq_false_iff_eq.mpr c25
              clear c25
              by_cases c26 : t138 = 0
              · rw [if_pos c26] at H
                have c26b0 : (t138 == 0) = true := beq_iff_eq.mpr c26
                have c26b1 : (t138 != 0) = false := bne_eq_false_iff_eq.mpr c26
                clear c26
                by_cases c27 : t140 = 0
                · rw [if_pos c27] at H
                  have c27b0 : (t140 == 0) = true := beq_iff_eq.mpr c27
                  have c27b1 : (t140 != 0) = false := bne_eq_false_iff_eq.mpr c27
                  clear c27
                  by_cases c28 : t137 = (wrap64 (-t133))
                  · rw [if_pos c28] at H
                    have c28b0 : (t137 == (wrap64 (-t133))) = true := beq_iff_eq.mpr c28
                    have c28b1 : (t137 != (wrap64 (-t133))) = false := bne_eq_false_iff_eq.mpr c28
                    clear c28
                    replace H := Option.bind_eq_some_iff.mp H
                    obtain ⟨t141, A290, H⟩ := H
                    replace H : (if t141 < 32767 then (zoetropelaw09_QuantNear.j0 k (wrap64 (t126 - 32768)) (wrap64 (1 + t127)) (rd y128 t131) t135 (t139 != (wrap64 (-t135)))) else (zoetropelaw09_QuantNear.j0 k (wrap64 (t126 - 32768)) (wrap64 (1 + t127)) (rd y128 t131) t135 false)) = some r := H
                    have A29 := Aside0.mk A290
                    clear A290
                    by_cases c30 : t141 < 32767
                    · rw [if_pos c30] at H
                      have c30b0 : decide (t141 < 32767) = true := decide_eq_true c30
                      clear c30
                      have H' := Aside0.mk H
                      clear H
                      go_wp2_with (first | (go_at_call 15; (with_reducible refine (zoetroperef00_Abs.calls t135 t141 _ A29.out).mono ?_); rintro e w' ⟨rfl, ⟨nd, rfl⟩⟩))
                      go_meet
                      case rel => exact ⟨_, ((t139 != (wrap64 (-t135)))), (by first | rfl | (simp; done) | (simp [*]; done)), H', ⟨by first | omega | exact Nat.le_refl _⟩, ⟨by repeat (first | (with_reducible first | exact HB.out | apply below_alloc | apply pw_below_drewN | apply below_drew1) | exact HB.out)⟩⟩
                    · rw [if_neg c30] at H
                      have c30b0 : decide (t141 < 32767) = false := decide_eq_false c30
                      clear c30
                      have H' := Aside0.mk H
                      clear H
                      go_wp2_with (first | (go_at_call 15; (with_reducible refine (zoetroperef00_Abs.calls t135 t141 _ A29.out).mono ?_); rintro e w' ⟨rfl, ⟨nd, rfl⟩⟩))
                      go_meet
                      case rel => exact ⟨_, (false), (by first | rfl | (simp; done) | (simp [*]; done)), H', ⟨by first | omega | exact Nat.le_refl _⟩, ⟨by repeat (first | (with_reducible first | exact HB.out | apply below_alloc | apply pw_below_drewN | apply below_drew1) | exact HB.out)⟩⟩
                  · rw [if_neg c28] at H
                    have c28b0 : (t137 == (wrap64 (-t133))) = false := beq_eq_false_iff_ne.mpr c28
                    have c28b1 : (t137 != (wrap64 (-t133))) = true := bne_iff_ne.mpr c28
                    have H' := Aside0.mk H
                    clear H
                    go_wp2
                    go_meet
                    case rel => exact ⟨_, (true), (by first | rfl | (simp; done) | (simp [*]; done)), H', ⟨by first | omega | exact Nat.le_refl _⟩, ⟨by repeat (first | (with_reducible first | exact HB.out | apply below_alloc | apply pw_below_drewN | apply below_drew1) | exact HB.out)⟩⟩
                · rw [if_neg c27] at H
                  have c27b0 : (t140 == 0) = false := beq_eq_false_iff_ne.mpr c27
                  have c27b1 : (t140 != 0) = true := bne_iff_ne.mpr c27
                  have H' := Aside0.mk H
                  clear H
                  go_wp2
                  go_meet
                  case rel => exact ⟨_, (true), (by first | rfl | (simp; done) | (simp [*]; done)), H', ⟨by first | omega | exact Nat.le_refl _⟩, ⟨by repeat (first | (with_reducible first | exact HB.out | apply below_alloc | apply pw_below_drewN | apply below_drew1) | exact HB.out)⟩⟩
              · rw [if_neg c26] at H
                have c26b0 : (t138 == 0) = false := beq_eq_false_iff_ne.mpr c26
                have c26b1 : (t138 != 0) = true := bne_iff_ne.mpr c26
                have H' := Aside0.mk H
                clear H
                go_wp2
                go_meet
                case rel => exact ⟨_, (true), (by first | rfl | (simp; done) | (simp [*]; done)), H', ⟨by first | omega | exact Nat.le_refl _⟩, ⟨by repeat (first | (with_reducible first | exact HB.out | apply below_alloc | apply pw_below_drewN | apply below_drew1) | exact HB.out)⟩⟩
            · rw [if_neg c25] at H
              have c25b0 : (t136 == 0) = false := beq_eq_false_iff_ne.mpr c25
              have c25b1 : (t136 != 0) = true := bne_iff_ne.mpr c25
              have H' := Aside0.mk H
              clear H
              go_wp2
              go_meet
              case rel => exact ⟨_, (true), (by first | rfl | (simp; done) | (simp [*]; done)), H', ⟨by first | omega | exact Nat.le_refl _⟩, ⟨by repeat (first | (with_reducible first | exact HB.out | apply below_alloc | apply pw_below_drewN | apply below_drew1) | exact HB.out)⟩⟩
          · rw [if_neg c24] at H
            have c24b0 : (t134 == 0) = false := beq_eq_false_iff_ne.mpr c24
            have c24b1 : (t134 != 0) = true := bne_iff_ne.mpr c24
            (first | rw [c24b0] | (simp only [i64_w, i32_w]; rw [c24b0]) | skip)
            have H' := Aside0.mk H
            clear H
            go_wp2
            go_meet
            case rel => exact ⟨_, (true), (by first | rfl | (simp; done) | (simp [*]; done)), H', ⟨by first | omega | exact Nat.le_refl _⟩, ⟨by repeat (first | (with_reducible first | exact HB.out | apply below_alloc | apply pw_below_drewN | apply below_drew1) | exact HB.out)⟩⟩
        case rest =>
          clear HC15
          try clear c1
          try clear p1
          try clear q1
          try clear hx1
          try clear c2
          try clear p2
          try clear c3
          try clear c4
          try clear c5
          try clear p6
          try clear c9
          try clear c9b0
          try clear c10
          try clear c10b0
          try clear c11
          try clear c13
          try clear p13
          try clear q13
          try clear hx13
          try clear c14
          try clear c24
          try clear c24b0
          try clear c24b1
          try clear c25
          try clear c25b0
          try clear c25b1
          try clear c26
          try clear c26b0
          try clear c26b1
          try clear c27
          try clear c27b0
          try clear c27b1
          try clear c28
          try clear c28b0
          try clear c28b1
          try clear c30
          try clear c30b0
          try clear hx132_0
          try clear p132
          try clear q132
          obtain ⟨kq, x88_14, rfl, HA, HJ14, HB⟩ := hcut
          cases kq with
          | zero => exact absurd HA.out (by simp [zoetropelaw09_QuantNear.j0])
          | succ kj14 =>
            have H := HA.out
            clear HA
            simp only [zoetropelaw09_QuantNear.j0] at H
            by_cases c31 : x88_14 = true
            · subst c31
              have H1 : (some false) = some r := by rw [if_pos rfl] at H; exact H
              clear H
              have H := H1
              clear H1
              obtain rfl := Option.some.inj H
              go_wp2
              go_ret
              exact ⟨by first | rfl | (simp [errW_none, errW_some] <;> rfl) | (simp [*, errW_none, errW_some] <;> rfl), by repeat (first | (with_reducible first | exact HB.out | apply below_alloc | apply pw_below_drewN | apply below_drew1) | exact HB.out)⟩
            · replace c31 := Bool.eq_false_iff.mpr c31
              subst c31
              have H1 : ((zoetroperef00_Abs.f (wrap64 (t135 - (wrap64 (t126 - 32768))))).bind fun t142 => ((zoetropelaw09_scale.f (rd y128 t131)).bind fun t143 => ((zoetropelaw09_scale.f (rd y128 t131)).bind fun t144 => (if (wrap64 (t142 * t143)) ≤ (wrap64 ((wrap64 (Int.tdiv (wrap64 (1 + t127)) 2)) + t144)) then (if t135 ≥ (-32768) then (if t135 ≤ 32767 then (if t135 = 0 then (some true) else (some ((decide ((wrap64 (t126 - 32768)) < 0)) == (decide (t135 < 0))))) else (some false)) else (some false)) else (some false))))) = some r := by rw [if_neg (show ¬ (false = true) by decide)] at H; exact H
              clear H
              have H := H1
              clear H1
              replace H := Option.bind_eq_some_iff.mp H
              obtain ⟨t142, A320, H⟩ := H
              replace H : ((zoetropelaw09_scale.f (rd y128 t131)).bind fun t143 => ((zoetropelaw09_scale.f (rd y128 t131)).bind fun t144 => (if (wrap64 (t142 * t143)) ≤ (wrap64 ((wrap64 (Int.tdiv (wrap64 (1 + t127)) 2)) + t144)) then (if t135 ≥ (-32768) then (if t135 ≤ 32767 then (if t135 = 0 then (some true) else (some ((decide ((wrap64 (t126 - 32768)) < 0)) == (decide (t135 < 0))))) else (some false)) else (some false)) else (some false)))) = some r := H
              have A32 := Aside0.mk A320
              clear A320
              replace H := Option.bind_eq_some_iff.mp H
              obtain ⟨t143, A330, H⟩ := H
              replace H : ((zoetropelaw09_scale.f (rd y128 t131)).bind fun t144 => (if (wrap64 (t142 * t143)) ≤ (wrap64 ((wrap64 (Int.tdiv (wrap64 (1 + t127)) 2)) + t144)) then (if t135 ≥ (-32768) then (if t135 ≤ 32767 then (if t135 = 0 then (some true) else (some ((decide ((wrap64 (t126 - 32768)) < 0)) == (decide (t135 < 0))))) else (some false)) else (some false)) else (some false))) = some r := H
              have A33 := Aside0.mk A330
              clear A330
              replace H := Option.bind_eq_some_iff.mp H
              obtain ⟨t144, A340, H⟩ := H
              replace H : (if (wrap64 (t142 * t143)) ≤ (wrap64 ((wrap64 (Int.tdiv (wrap64 (1 + t127)) 2)) + t144)) then (if t135 ≥ (-32768) then (if t135 ≤ 32767 then (if t135 = 0 then (some true) else (some ((decide ((wrap64 (t126 - 32768)) < 0)) == (decide (t135 < 0))))) else (some false)) else (some false)) else (some false)) = some r := H
              have A34 := Aside0.mk A340
              clear A340
              by_cases c35 : (wrap64 (t142 * t143)) ≤ (wrap64 ((wrap64 (Int.tdiv (wrap64 (1 + t127)) 2)) + t144))
              · rw [if_pos c35] at H
                have c35b0 : decide ((wrap64 (t142 * t143)) ≤ (wrap64 ((wrap64 (Int.tdiv (wrap64 (1 + t127)) 2)) + t144))) = true := decide_eq_true c35
                clear c35
                by_cases c36 : t135 ≥ (-32768)
                · rw [if_pos c36] at H
                  have c36b0 : decide ((-32768) ≤ t135) = true := decide_eq_true c36
                  clear c36
                  by_cases c37 : t135 ≤ 32767
                  · rw [if_pos c37] at H
                    have c37b0 : decide (t135 ≤ 32767) = true := decide_eq_true c37
                    clear c37
                    by_cases c38 : t135 = 0
                    · rw [if_pos c38] at H
                      have c38b0 : (t135 == 0) = true := beq_iff_eq.mpr c38
                      have c38b1 : (t135 != 0) = false := bne_eq_false_iff_eq.mpr c38
                      clear c38
                      obtain rfl := Option.some.inj H
                      go_wp2_with (first | ((with_reducible refine gate_callee (f := 15) rfl ?_); refine goesL_ (some 92) rfl rfl Try.func15 (by kernel_rfl) rfl #[.int .i64 (wrap64 (t135 - (wrap64 (t126 - 32768))))] rfl (by (try simp only [List.map_toArray, List.map_cons, List.map_nil]); first | done | rfl | (simp only [List.length_drop, List.length_take]; rfl)) ?_; (with_reducible refine (zoetroperef00_Abs.calls (wrap64 (t135 - (wrap64 (t126 - 32768)))) t142 _ A32.out).mono ?_); rintro e w' ⟨rfl, ⟨nd, rfl⟩⟩; refine ⟨_, rfl, ?_⟩) | ((with_reducible refine gate_callee (f := 16) rfl ?_); refine goesL_ (some 94) rfl rfl Try.func16 (by kernel_rfl) rfl #[.int .i64 (rd y128 t131)] rfl (by (try simp only [List.map_toArray, List.map_cons, List.map_nil]); first | done | rfl | (simp only [List.length_drop, List.length_take]; rfl)) ?_; (with_reducible refine (zoetropelaw09_scale.calls (rd y128 t131) t143 _ A33.out).mono ?_); rintro e w' ⟨rfl, ⟨nd, rfl⟩⟩; refine ⟨_, rfl, ?_⟩) | ((with_reducible refine gate_callee (f := 16) rfl ?_); refine goesL_ (some 99) rfl rfl Try.func16 (by kernel_rfl) rfl #[.int .i64 (rd y128 t131)] rfl (by (try simp only [List.map_toArray, List.map_cons, List.map_nil]); first | done | rfl | (simp only [List.length_drop, List.length_take]; rfl)) ?_; (with_reducible refine (zoetropelaw09_scale.calls (rd y128 t131) t144 _ A34.out).mono ?_); rintro e w' ⟨rfl, ⟨nd, rfl⟩⟩; refine ⟨_, rfl, ?_⟩))
                      go_ret
                      exact ⟨by first | rfl | (simp [errW_none, errW_some] <;> rfl) | (simp [*, errW_none, errW_some] <;> rfl), by repeat (first | (with_reducible first | exact HB.out | apply below_alloc | apply pw_below_drewN | apply below_drew1) | exact HB.out)⟩
                    · rw [if_neg c38] at H
                      have c38b0 : (t135 == 0) = false := beq_eq_false_iff_ne.mpr c38
                      have c38b1 : (t135 != 0) = true := bne_iff_ne.mpr c38
                      obtain rfl := Option.some.inj H
                      go_wp2_with (first | ((with_reducible refine gate_callee (f := 15) rfl ?_); refine goesL_ (some 92) rfl rfl Try.func15 (by kernel_rfl) rfl #[.int .i64 (wrap64 (t135 - (wrap64 (t126 - 32768))))] rfl (by (try simp only [List.map_toArray, List.map_cons, List.map_nil]); first | done | rfl | (simp only [List.length_drop, List.length_take]; rfl)) ?_; (with_reducible refine (zoetroperef00_Abs.calls (wrap64 (t135 - (wrap64 (t126 - 32768)))) t142 _ A32.out).mono ?_); rintro e w' ⟨rfl, ⟨nd, rfl⟩⟩; refine ⟨_, rfl, ?_⟩) | ((with_reducible refine gate_callee (f := 16) rfl ?_); refine goesL_ (some 94) rfl rfl Try.func16 (by kernel_rfl) rfl #[.int .i64 (rd y128 t131)] rfl (by (try simp only [List.map_toArray, List.map_cons, List.map_nil]); first | done | rfl | (simp only [List.length_drop, List.length_take]; rfl)) ?_; (with_reducible refine (zoetropelaw09_scale.calls (rd y128 t131) t143 _ A33.out).mono ?_); rintro e w' ⟨rfl, ⟨nd, rfl⟩⟩; refine ⟨_, rfl, ?_⟩) | ((with_reducible refine gate_callee (f := 16) rfl ?_); refine goesL_ (some 99) rfl rfl Try.func16 (by kernel_rfl) rfl #[.int .i64 (rd y128 t131)] rfl (by (try simp only [List.map_toArray, List.map_cons, List.map_nil]); first | done | rfl | (simp only [List.length_drop, List.length_take]; rfl)) ?_; (with_reducible refine (zoetropelaw09_scale.calls (rd y128 t131) t144 _ A34.out).mono ?_); rintro e w' ⟨rfl, ⟨nd, rfl⟩⟩; refine ⟨_, rfl, ?_⟩))
                      go_ret
                      exact ⟨by first | rfl | (simp [errW_none, errW_some] <;> rfl) | (simp [*, errW_none, errW_some] <;> rfl), by repeat (first | (with_reducible first | exact HB.out | apply below_alloc | apply pw_below_drewN | apply below_drew1) | exact HB.out)⟩
                  · rw [if_neg c37] at H
                    have c37b0 : decide (t135 ≤ 32767) = false := decide_eq_false c37
                    clear c37
                    obtain rfl := Option.some.inj H
                    go_wp2_with (first | ((with_reducible refine gate_callee (f := 15) rfl ?_); refine goesL_ (some 92) rfl rfl Try.func15 (by kernel_rfl) rfl #[.int .i64 (wrap64 (t135 - (wrap64 (t126 - 32768))))] rfl (by (try simp only [List.map_toArray, List.map_cons, List.map_nil]); first | done | rfl | (simp only [List.length_drop, List.length_take]; rfl)) ?_; (with_reducible refine (zoetroperef00_Abs.calls (wrap64 (t135 - (wrap64 (t126 - 32768)))) t142 _ A32.out).mono ?_); rintro e w' ⟨rfl, ⟨nd, rfl⟩⟩; refine ⟨_, rfl, ?_⟩) | ((with_reducible refine gate_callee (f := 16) rfl ?_); refine goesL_ (some 94) rfl rfl Try.func16 (by kernel_rfl) rfl #[.int .i64 (rd y128 t131)] rfl (by (try simp only [List.map_toArray, List.map_cons, List.map_nil]); first | done | rfl | (simp only [List.length_drop, List.length_take]; rfl)) ?_; (with_reducible refine (zoetropelaw09_scale.calls (rd y128 t131) t143 _ A33.out).mono ?_); rintro e w' ⟨rfl, ⟨nd, rfl⟩⟩; refine ⟨_, rfl, ?_⟩) | ((with_reducible refine gate_callee (f := 16) rfl ?_); refine goesL_ (some 99) rfl rfl Try.func16 (by kernel_rfl) rfl #[.int .i64 (rd y128 t131)] rfl (by (try simp only [List.map_toArray, List.map_cons, List.map_nil]); first | done | rfl | (simp only [List.length_drop, List.length_take]; rfl)) ?_; (with_reducible refine (zoetropelaw09_scale.calls (rd y128 t131) t144 _ A34.out).mono ?_); rintro e w' ⟨rfl, ⟨nd, rfl⟩⟩; refine ⟨_, rfl, ?_⟩))
                    go_ret
                    exact ⟨by first | rfl | (simp [errW_none, errW_some] <;> rfl) | (simp [*, errW_none, errW_some] <;> rfl), by repeat (first | (with_reducible first | exact HB.out | apply below_alloc | apply pw_below_drewN | apply below_drew1) | exact HB.out)⟩
                · rw [if_neg c36] at H
                  have c36b0 : decide ((-32768) ≤ t135) = false := decide_eq_false c36
                  clear c36
                  obtain rfl := Option.some.inj H
                  go_wp2_with (first | ((with_reducible refine gate_callee (f := 15) rfl ?_); refine goesL_ (some 92) rfl rfl Try.func15 (by kernel_rfl) rfl #[.int .i64 (wrap64 (t135 - (wrap64 (t126 - 32768))))] rfl (by (try simp only [List.map_toArray, List.map_cons, List.map_nil]); first | done | rfl | (simp only [List.length_drop, List.length_take]; rfl)) ?_; (with_reducible refine (zoetroperef00_Abs.calls (wrap64 (t135 - (wrap64 (t126 - 32768)))) t142 _ A32.out).mono ?_); rintro e w' ⟨rfl, ⟨nd, rfl⟩⟩; refine ⟨_, rfl, ?_⟩) | ((with_reducible refine gate_callee (f := 16) rfl ?_); refine goesL_ (some 94) rfl rfl Try.func16 (by kernel_rfl) rfl #[.int .i64 (rd y128 t131)] rfl (by (try simp only [List.map_toArray, List.map_cons, List.map_nil]); first | done | rfl | (simp only [List.length_drop, List.length_take]; rfl)) ?_; (with_reducible refine (zoetropelaw09_scale.calls (rd y128 t131) t143 _ A33.out).mono ?_); rintro e w' ⟨rfl, ⟨nd, rfl⟩⟩; refine ⟨_, rfl, ?_⟩) | ((with_reducible refine gate_callee (f := 16) rfl ?_); refine goesL_ (some 99) rfl rfl Try.func16 (by kernel_rfl) rfl #[.int .i64 (rd y128 t131)] rfl (by (try simp only [List.map_toArray, List.map_cons, List.map_nil]); first | done | rfl | (simp only [List.length_drop, List.length_take]; rfl)) ?_; (with_reducible refine (zoetropelaw09_scale.calls (rd y128 t131) t144 _ A34.out).mono ?_); rintro e w' ⟨rfl, ⟨nd, rfl⟩⟩; refine ⟨_, rfl, ?_⟩))
                  go_ret
                  exact ⟨by first | rfl | (simp [errW_none, errW_some] <;> rfl) | (simp [*, errW_none, errW_some] <;> rfl), by repeat (first | (with_reducible first | exact HB.out | apply below_alloc | apply pw_below_drewN | apply below_drew1) | exact HB.out)⟩
              · rw [if_neg c35] at H
                have c35b0 : decide ((wrap64 (t142 * t143)) ≤ (wrap64 ((wrap64 (Int.tdiv (wrap64 (1 + t127)) 2)) + t144))) = false := decide_eq_false c35
                clear c35
                obtain rfl := Option.some.inj H
                go_wp2_with (first | ((with_reducible refine gate_callee (f := 15) rfl ?_); refine goesL_ (some 92) rfl rfl Try.func15 (by kernel_rfl) rfl #[.int .i64 (wrap64 (t135 - (wrap64 (t126 - 32768))))] rfl (by (try simp only [List.map_toArray, List.map_cons, List.map_nil]); first | done | rfl | (simp only [List.length_drop, List.length_take]; rfl)) ?_; (with_reducible refine (zoetroperef00_Abs.calls (wrap64 (t135 - (wrap64 (t126 - 32768)))) t142 _ A32.out).mono ?_); rintro e w' ⟨rfl, ⟨nd, rfl⟩⟩; refine ⟨_, rfl, ?_⟩) | ((with_reducible refine gate_callee (f := 16) rfl ?_); refine goesL_ (some 94) rfl rfl Try.func16 (by kernel_rfl) rfl #[.int .i64 (rd y128 t131)] rfl (by (try simp only [List.map_toArray, List.map_cons, List.map_nil]); first | done | rfl | (simp only [List.length_drop, List.length_take]; rfl)) ?_; (with_reducible refine (zoetropelaw09_scale.calls (rd y128 t131) t143 _ A33.out).mono ?_); rintro e w' ⟨rfl, ⟨nd, rfl⟩⟩; refine ⟨_, rfl, ?_⟩) | ((with_reducible refine gate_callee (f := 16) rfl ?_); refine goesL_ (some 99) rfl rfl Try.func16 (by kernel_rfl) rfl #[.int .i64 (rd y128 t131)] rfl (by (try simp only [List.map_toArray, List.map_cons, List.map_nil]); first | done | rfl | (simp only [List.length_drop, List.length_take]; rfl)) ?_; (with_reducible refine (zoetropelaw09_scale.calls (rd y128 t131) t144 _ A34.out).mono ?_); rintro e w' ⟨rfl, ⟨nd, rfl⟩⟩; refine ⟨_, rfl, ?_⟩))
                go_ret
                exact ⟨by first | rfl | (simp [errW_none, errW_some] <;> rfl) | (simp [*, errW_none, errW_some] <;> rfl), by repeat (first | (with_reducible first | exact HB.out | apply below_alloc | apply pw_below_drewN | apply below_drew1) | exact HB.out)⟩
      · rw [if_neg c10] at H
        exact absurd H (by simp)
    · rw [if_neg c9] at H
      exact absurd H (by simp)
  · replace c5 := Bool.eq_false_iff.mpr c5
    subst c5
    have H1 : (some false) = some r := by rw [if_neg (show ¬ (false = true) by decide)] at H; exact H
    clear H
    have H := H1
    clear H1
    obtain rfl := Option.some.inj H
    go_enter Try.func4, Try.ntmps4
    go_wp2_with (first | ((with_reducible refine gate_callee (f := 13) rfl ?_); refine goesL_ (some 15) rfl rfl Try.func13 (by kernel_rfl) rfl #[] rfl (by (try simp only [List.map_toArray, List.map_cons, List.map_nil]); first | done | rfl | (simp only [List.length_drop, List.length_take]; rfl)) ?_; (with_reducible refine (zoetropelaw09_works.calls k  false _ A4.out).mono ?_); rintro e w39 ⟨rfl, hb⟩; refine ⟨_, rfl, ?_⟩; have n0_ := Aside0.mk (below_step (by repeat (first | (with_reducible first | exact HB.out | apply below_alloc | apply pw_below_drewN | apply below_drew1) | exact HB.out)) hb); clear HB; have HB := n0_; clear n0_; (try clear hb); (try clear hb2); (try clear hk); (try clear hi)))
    go_ret
    exact ⟨by first | rfl | (simp [errW_none, errW_some] <;> rfl) | (simp [*, errW_none, errW_some] <;> rfl), by repeat (first | (with_reducible first | exact HB.out | apply below_alloc | apply pw_below_drewN | apply below_drew1) | exact HB.out)⟩

/-- THE ONE PURE STATEMENT of zoetropelaw09_QuantNear: yours. -/
def zoetropelaw09_QuantNear.Pure : Prop := ∀ (a0 : Int) (a1 : Int) (a2 : Int), (Lit.int .i64 a0).wf = true → (Lit.int .i64 a1).wf = true → (Lit.int .i64 a2).wf = true → ∃ k, zoetropelaw09_QuantNear.f k a0 a1 a2 = some true
theorem zoetropelaw09_QuantNear.walk (P : zoetropelaw09_QuantNear.Pure) (a0 : Int) (a1 : Int) (a2 : Int) (w : World) (w0 : (Lit.int .i64 a0).wf = true) (w1 : (Lit.int .i64 a1).wf = true) (w2 : (Lit.int .i64 a2).wf = true) :
    Calls Try.prog 4 #[.int .i64 a0, .int .i64 a1, .int .i64 a2] w fun e w' => e = .returned (.bool true) ∧ Below w.heap.size w w' := by
  obtain ⟨k, h⟩ := P a0 a1 a2 w0 w1 w2
  refine (zoetropelaw09_QuantNear.calls k a0 a1 a2 true w h).mono ?_
  rintro e w' ⟨rfl, hd⟩
  exact ⟨rfl, hd⟩

end Go.Proofs.Ytgflgeblimiocaa.PQuantNear
