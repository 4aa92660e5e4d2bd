/- QuantNear: what is rounded stays near, and signs turn: the printed law answers true at every three whole numbers. No conditions. -/
import Derived.Test.YtgflgeblimiocaaPQuantNearx2
import Derived.Test.YtgflgeblimiocaaQN
namespace Go.Proofs.Ytgflgeblimiocaa.Pure
open Go.RowKit Go.Proofs.Ytgflgeblimiocaa.PQuantNear Go.Proofs.YtgflgeblimiocaaW.PrintWords Go.Proofs.YtgflgeblimiocaaW.PrintLast Go.Proofs.YtgflgeblimiocaaW.PrintMore Go.Proofs.Ytgflgeblimiocaa.Q

theorem scale_eq (k : Nat) (z : Int) : quant_scale.f (k + 1) z = some (if z = 4 ∨ z = 8 ∨ z = 16 then (0, true) else if z = 32 then (1, true) else if z = 64 then (2, true) else (0, false)) := by
  unfold quant_scale.f
  by_cases h4 : z = 4
  · subst h4; rfl
  by_cases h8 : z = 8
  · subst h8; rfl
  by_cases h16 : z = 16
  · subst h16; rfl
  rw [if_neg h4, if_neg h8, if_neg (show ¬ (z = 4 ∨ z = 8 ∨ z = 16) by omega)]
  simp only [quant_scale.j0]
  rw [if_neg (by simp [h16])]
  split
  · rfl
  · split <;> rfl

theorem scaled_eq (k : Nat) (n st z : Int) : (okq n st z = true → ∃ s, quant_scaled.f (k + 1) n st z = some (ab n, s, true) ∧ ((s = 0 ∧ sc z = 1) ∨ (s = 1 ∧ sc z = 2) ∨ (s = 2 ∧ sc z = 4))) ∧
    (okq n st z = false → quant_scaled.f (k + 1) n st z = some (0, 0, false)) := by
  unfold quant_scaled.f
  rw [scale_eq]
  constructor
  · intro h
    obtain ⟨a, b, d, e, f⟩ := okq_iff.1 h
    have hw : mx n (wrap64 (-n)) = ab n := by rw [w64 (by omega) (by omega), mx_neg]
    rcases sc_cases z with ⟨k1, k2⟩ | ⟨k1, k2⟩ | ⟨k1, k2⟩ | ⟨k1, k2⟩
    · refine ⟨0, ?_, .inl ⟨rfl, k1⟩⟩
      rw [if_pos k2]; simp only [Option.bind_some]
      rw [if_pos trivial, if_neg (by omega), if_neg (by omega), if_neg (by omega), if_neg (by omega), hw]
    · refine ⟨1, ?_, .inr (.inl ⟨rfl, k1⟩)⟩
      rw [if_neg (by omega), if_pos k2]; simp only [Option.bind_some]
      rw [if_pos trivial, if_neg (by omega), if_neg (by omega), if_neg (by omega), if_neg (by omega), hw]
    · refine ⟨2, ?_, .inr (.inr ⟨rfl, k1⟩)⟩
      rw [if_neg (by omega), if_neg (by omega), if_pos k2]; simp only [Option.bind_some]
      rw [if_pos trivial, if_neg (by omega), if_neg (by omega), if_neg (by omega), if_neg (by omega), hw]
    · omega
  · intro h
    have h' : ¬ (-1048576 ≤ n ∧ n ≤ 1048576 ∧ 1 ≤ st ∧ st ≤ 32768 ∧ 0 < sc z) := fun g => by rw [okq_iff.2 g] at h; cases h
    rcases sc_cases z with ⟨k1, k2⟩ | ⟨k1, k2⟩ | ⟨k1, k2⟩ | ⟨k1, k2⟩
    · rw [if_pos k2]; simp only [Option.bind_some, if_true]
      repeat' split
      all_goals first | rfl | omega
    · rw [if_neg (by omega), if_pos k2]; simp only [Option.bind_some, if_true]
      repeat' split
      all_goals first | rfl | omega
    · rw [if_neg (by omega), if_neg (by omega), if_pos k2]; simp only [Option.bind_some, if_true]
      repeat' split
      all_goals first | rfl | omega
    · rw [if_neg (by omega), if_neg (by omega), if_neg (by omega)]; rfl

theorem level_ok (k : Nat) (c st z : Int) (h : okq c st z = true) : quant_Level.f (k + 1) c st z = some (lv c st z, 0) := by
  obtain ⟨s, hs, hc⟩ := (scaled_eq k c st z).1 h
  have hl := lv_pos h
  unfold quant_Level.f
  rw [hs]; simp only [Option.bind_some, if_true]
  rw [if_pos (by omega), if_neg (by have := okq_iff.1 h; omega), lv_code h hc]
  unfold quant_signed.f
  rw [sg_wrap hl.1 (by omega)]; rfl
theorem level_no (k : Nat) (c st z : Int) (h : okq c st z = false) : quant_Level.f (k + 1) c st z = some (0, 2) := by
  unfold quant_Level.f
  rw [(scaled_eq k c st z).2 h]; rfl
theorem value_ok (k : Nat) (l st z : Int) (h : okq l st z = true) : quant_Value.f (k + 1) l st z = some (vl l st z, 0) := by
  obtain ⟨s, hs, hc⟩ := (scaled_eq k l st z).1 h
  have hl := vl_pos h
  unfold quant_Value.f
  rw [hs]; simp only [Option.bind_some, if_true]
  rw [if_pos (by omega), vl_code h hc]
  unfold quant_signed.f
  rw [sg_wrap hl.1 (by omega)]
  simp only [Option.bind_some]
  rw [cl_eq]; rfl
theorem value_no (k : Nat) (l st z : Int) (h : okq l st z = false) : quant_Value.f (k + 1) l st z = some (0, 2) := by
  unfold quant_Value.f
  rw [(scaled_eq k l st z).2 h]; rfl
theorem works_eq (k : Nat) : zoetropelaw09_works.f (k + 1) = some true := by
  unfold zoetropelaw09_works.f
  rw [level_ok k (-100) 7 4 (by decide), value_ok k 57 7 64 (by decide)]
  decide +kernel

theorem bring_eq (a n : Int) (h0 : 0 < n) (h1 : n ≤ 4611686018427387904) : zoetroperef00_Bring.f a n = some (a % n) := bring_code a n h0 h1
theorem abs_eq (n : Int) (h0 : -1000000000 ≤ n) (h1 : n ≤ 1000000000) : zoetroperef00_Abs.f n = some (ab n) := by
  unfold zoetroperef00_Abs.f ab; split
  · rw [w64 (by omega) (by omega)]
  · rfl
theorem size_sc (t : Int) (h0 : 0 ≤ t) (h1 : t < 5) : 0 < sc (rd [4, 8, 16, 32, 64] t) ∧ zoetropelaw09_scale.f (rd [4, 8, 16, 32, 64] t) = some (sc (rd [4, 8, 16, 32, 64] t)) := by
  have h : t = 0 ∨ t = 1 ∨ t = 2 ∨ t = 3 ∨ t = 4 := by omega
  rcases h with rfl | rfl | rfl | rfl | rfl <;> decide
theorem QuantNear : zoetropelaw09_QuantNear.Pure := by
  intro a0 a1 a2 _ _ _
  refine ⟨1, ?_⟩
  unfold zoetropelaw09_QuantNear.f
  rw [works_eq 0, bring_eq a0 _ (by omega) (by omega), bring_eq a1 _ (by omega) (by omega), bring_eq a2 _ (by omega) (by omega)]
  simp only [Option.bind_some, if_true]
  have hz := size_sc (a2 % 5) (by omega) (by omega)
  rw [if_pos (by omega), if_pos (by simp; omega)]
  generalize rd [4, 8, 16, 32, 64] (a2 % 5) = z at *
  obtain ⟨z0, z1⟩ := hz
  rw [w64 (n := a0 % 65536 - 32768) (by omega) (by omega), w64 (n := 1 + a1 % 32768) (by omega) (by omega), w64 (n := -(a0 % 65536 - 32768)) (by omega) (by omega)]
  have c0 : -32768 ≤ a0 % 65536 - 32768 := by omega
  have c1 : a0 % 65536 - 32768 ≤ 32767 := by omega
  have s0 : 1 ≤ 1 + a1 % 32768 := by omega
  have s1 : 1 + a1 % 32768 ≤ 32768 := by omega
  generalize a0 % 65536 - 32768 = c at *
  generalize 1 + a1 % 32768 = st at *
  obtain ⟨k1, k2, k3, k4, k5, k6, k7, k8, k9, k10, k11, k12⟩ := near c st z c0 c1 s0 s1 z0
  rw [level_ok 0 _ _ _ k1]; simp only [Option.bind_some]
  rw [value_ok 0 _ _ _ k3]; simp only [Option.bind_some]
  rw [level_ok 0 _ _ _ k2]; simp only [Option.bind_some]
  rw [w64 (n := -lv c st z) (by omega) (by omega), value_ok 0 _ _ _ k4]; simp only [Option.bind_some, if_true]
  rw [if_pos k5, abs_eq _ (by omega) (by omega)]; simp only [Option.bind_some]
  have j0 : zoetropelaw09_QuantNear.j0 1 c st z (vl (lv c st z) st z) false = some true := by
    simp only [zoetropelaw09_QuantNear.j0, Bool.false_eq_true, if_false]
    generalize vl (lv c st z) st z = v at *
    have hsc : sc z ≤ 4 := by rcases sc_cases z with ⟨k, _⟩ | ⟨k, _⟩ | ⟨k, _⟩ | ⟨k, _⟩ <;> omega
    rw [w64 (n := v - c) (by omega) (by omega), abs_eq _ (by omega) (by omega), z1]; simp only [Option.bind_some]
    have hb : 0 ≤ ab (v - c) * sc z := Int.mul_nonneg (ab_le (n := v - c) (B := 1000000) (by omega) (by omega)).1 (by omega)
    rw [Int.tdiv_eq_ediv_of_nonneg (show 0 ≤ st by omega), w64 (n := st / 2) (by omega) (by omega), w64 (n := st / 2 + sc z) (by omega) (by omega), w64 (n := ab (v - c) * sc z) (by omega) (by omega), if_pos k9, if_pos k10, if_pos k11]
    rcases k12 with k | k
    · rw [if_pos k]
    · split
      · rfl
      · rw [k]
  split
  · rename_i h
    rw [k8 h, w64 (n := -vl (lv c st z) st z) (by omega) (by omega), bne_self_eq_false]; exact j0
  · exact j0

end Go.Proofs.Ytgflgeblimiocaa.Pure
