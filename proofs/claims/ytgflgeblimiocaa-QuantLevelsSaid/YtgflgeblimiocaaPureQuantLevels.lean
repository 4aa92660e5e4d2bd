/- QuantLevels: Level and Value of the program answer as the reference does, at every number, step and size: the printed law answers true. No conditions. -/
import Derived.Test.YtgflgeblimiocaaPQuantLevelsx2
import Derived.Test.YtgflgeblimiocaaQ
namespace Go.Proofs.Ytgflgeblimiocaa.Pure
open Go.RowKit Go.Proofs.Ytgflgeblimiocaa.PQuantLevels Go.Proofs.YtgflgeblimiocaaW.PrintWords Go.Proofs.YtgflgeblimiocaaW.PrintLast Go.Proofs.YtgflgeblimiocaaW.PrintMore Go.Proofs.Ytgflgeblimiocaa.Q

theorem scale_eq (k : Nat) (z : Int) : quant_scale.f (k + 1) z = some (if z = 4 ∨ z = 8 ∨ z = 16 then (0, true) else if z = 32 then (1, true) else if z = 64 then (2, true) else (0, false)) := by
  unfold quant_scale.f
  by_cases h4 : z = 4
  · subst h4; rfl
  by_cases h8 : z = 8
  · subst h8; rfl
  by_cases h16 : z = 16
  · subst h16; rfl
  rw [if_neg h4, if_neg h8, if_neg (show ¬ (z = 4 ∨ z = 8 ∨ z = 16) by omega)]
  simp only [quant_scale.j0]
  rw [if_neg (by simp [h16])]
  split
  · rfl
  · split <;> rfl

theorem scaled_eq (k : Nat) (n st z : Int) : (okq n st z = true → ∃ s, quant_scaled.f (k + 1) n st z = some (ab n, s, true) ∧ ((s = 0 ∧ sc z = 1) ∨ (s = 1 ∧ sc z = 2) ∨ (s = 2 ∧ sc z = 4))) ∧
    (okq n st z = false → quant_scaled.f (k + 1) n st z = some (0, 0, false)) := by
  unfold quant_scaled.f
  rw [scale_eq]
  constructor
  · intro h
    obtain ⟨a, b, d, e, f⟩ := okq_iff.1 h
    have hw : mx n (wrap64 (-n)) = ab n := by rw [w64 (by omega) (by omega), mx_neg]
    rcases sc_cases z with ⟨k1, k2⟩ | ⟨k1, k2⟩ | ⟨k1, k2⟩ | ⟨k1, k2⟩
    · refine ⟨0, ?_, .inl ⟨rfl, k1⟩⟩
      rw [if_pos k2]; simp only [Option.bind_some]
      rw [if_pos trivial, if_neg (by omega), if_neg (by omega), if_neg (by omega), if_neg (by omega), hw]
    · refine ⟨1, ?_, .inr (.inl ⟨rfl, k1⟩)⟩
      rw [if_neg (by omega), if_pos k2]; simp only [Option.bind_some]
      rw [if_pos trivial, if_neg (by omega), if_neg (by omega), if_neg (by omega), if_neg (by omega), hw]
    · refine ⟨2, ?_, .inr (.inr ⟨rfl, k1⟩)⟩
      rw [if_neg (by omega), if_neg (by omega), if_pos k2]; simp only [Option.bind_some]
      rw [if_pos trivial, if_neg (by omega), if_neg (by omega), if_neg (by omega), if_neg (by omega), hw]
    · omega
  · intro h
    have h' : ¬ (-1048576 ≤ n ∧ n ≤ 1048576 ∧ 1 ≤ st ∧ st ≤ 32768 ∧ 0 < sc z) := fun g => by rw [okq_iff.2 g] at h; cases h
    rcases sc_cases z with ⟨k1, k2⟩ | ⟨k1, k2⟩ | ⟨k1, k2⟩ | ⟨k1, k2⟩
    · rw [if_pos k2]; simp only [Option.bind_some, if_true]
      repeat' split
      all_goals first | rfl | omega
    · rw [if_neg (by omega), if_pos k2]; simp only [Option.bind_some, if_true]
      repeat' split
      all_goals first | rfl | omega
    · rw [if_neg (by omega), if_neg (by omega), if_pos k2]; simp only [Option.bind_some, if_true]
      repeat' split
      all_goals first | rfl | omega
    · rw [if_neg (by omega), if_neg (by omega), if_neg (by omega)]; rfl

theorem level_ok (k : Nat) (c st z : Int) (h : okq c st z = true) : quant_Level.f (k + 1) c st z = some (lv c st z, 0) := by
  obtain ⟨s, hs, hc⟩ := (scaled_eq k c st z).1 h
  have hl := lv_pos h
  unfold quant_Level.f
  rw [hs]; simp only [Option.bind_some, if_true]
  rw [if_pos (by omega), if_neg (by have := okq_iff.1 h; omega), lv_code h hc]
  unfold quant_signed.f
  rw [sg_wrap hl.1 (by omega)]; rfl
theorem level_no (k : Nat) (c st z : Int) (h : okq c st z = false) : quant_Level.f (k + 1) c st z = some (0, 2) := by
  unfold quant_Level.f
  rw [(scaled_eq k c st z).2 h]; rfl
theorem value_ok (k : Nat) (l st z : Int) (h : okq l st z = true) : quant_Value.f (k + 1) l st z = some (vl l st z, 0) := by
  obtain ⟨s, hs, hc⟩ := (scaled_eq k l st z).1 h
  have hl := vl_pos h
  unfold quant_Value.f
  rw [hs]; simp only [Option.bind_some, if_true]
  rw [if_pos (by omega), vl_code h hc]
  unfold quant_signed.f
  rw [sg_wrap hl.1 (by omega)]
  simp only [Option.bind_some]
  rw [cl_eq]; rfl
theorem value_no (k : Nat) (l st z : Int) (h : okq l st z = false) : quant_Value.f (k + 1) l st z = some (0, 2) := by
  unfold quant_Value.f
  rw [(scaled_eq k l st z).2 h]; rfl
theorem works_eq (k : Nat) : zoetropelaw09_works.f (k + 1) = some true := by
  unfold zoetropelaw09_works.f
  rw [level_ok k (-100) 7 4 (by decide), value_ok k 57 7 64 (by decide)]
  decide +kernel

theorem rscale_eq (k : Nat) (z : Int) : zoetroperef09_scale.f (k + 1) z = some (sc z) := by
  unfold zoetroperef09_scale.f sc
  by_cases h4 : z = 4
  · subst h4; rfl
  by_cases h8 : z = 8
  · subst h8; rfl
  by_cases h16 : z = 16
  · subst h16; rfl
  rw [if_neg h4, if_neg h8, if_neg (show ¬ (z = 4 ∨ z = 8 ∨ z = 16) by omega)]
  simp only [zoetroperef09_scale.j0]
  rw [if_neg (by simp [h16])]
  split
  · rfl
  · split <;> rfl
theorem asked_eq (k : Nat) (n st z : Int) : zoetroperef09_asked.f (k + 1) n st z = some (okq n st z) := by
  unfold zoetroperef09_asked.f okq
  rw [rscale_eq]; simp only [Option.bind_some]
  repeat' split
  all_goals (congr 1; rw [Bool.eq_iff_iff]; simp only [decide_eq_true_eq, Bool.false_eq_true, false_iff]; omega)
theorem rlevel_ok (k : Nat) (c st z : Int) (h : okq c st z = true) : zoetroperef09_Level.f (k + 1) c st z = some (lv c st z, 0) := by
  have hl := lv_pos h
  have ho := okq_iff.1 h
  have ha : zoetroperef00_Abs.f c = some (ab c) := by
    unfold zoetroperef00_Abs.f ab; split
    · rw [w64 (by omega) (by omega)]
    · rfl
  unfold zoetroperef09_Level.f
  rw [asked_eq, h, ha, rscale_eq]; simp only [Option.bind_some, if_true]
  rw [if_neg (by omega), lv_ref h]
  unfold lv sg
  split
  · rw [w64 (by omega) (by omega)]
  · rfl
theorem rlevel_no (k : Nat) (c st z : Int) (h : okq c st z = false) : zoetroperef09_Level.f (k + 1) c st z = some (0, 2) := by
  unfold zoetroperef09_Level.f
  rw [asked_eq, h]; rfl
theorem rvalue_ok (k : Nat) (l st z : Int) (h : okq l st z = true) : zoetroperef09_Value.f (k + 1) l st z = some (vl l st z, 0) := by
  have hl := vl_pos h
  have ho := okq_iff.1 h
  have ha : zoetroperef00_Abs.f l = some (ab l) := by
    unfold zoetroperef00_Abs.f ab; split
    · rw [w64 (by omega) (by omega)]
    · rfl
  have hc : ∀ v, zoetroperef00_Clip.f v (-32768) 32767 = some (cl v (-32768) 32767) := by
    intro v; unfold zoetroperef00_Clip.f cl
    repeat' split
    all_goals rfl
  unfold zoetroperef09_Value.f
  rw [asked_eq, h, ha, rscale_eq]; simp only [Option.bind_some, if_true]
  rw [if_neg (by omega), vl_ref h]
  unfold vl sg
  split
  · rw [w64 (by omega) (by omega), hc]; rfl
  · rw [hc]; rfl
theorem rvalue_no (k : Nat) (l st z : Int) (h : okq l st z = false) : zoetroperef09_Value.f (k + 1) l st z = some (0, 2) := by
  unfold zoetroperef09_Value.f
  rw [asked_eq, h]; rfl

theorem round (k : Nat) (n st z x : Int) (h0 : 0 ≤ x) (h6 : x < 6) : zoetropelaw09_QuantLevels.l0 (k + 2) n st z x = zoetropelaw09_QuantLevels.l0 (k + 1) n st z (x + 1) := by
  generalize hm : k + 1 = m
  rw [show k + 2 = m + 1 by omega]
  simp only [zoetropelaw09_QuantLevels.l0, Option.bind_some]
  rw [if_pos h6, if_pos h0, if_pos (by simp; omega)]
  generalize rd [4, 8, 16, 32, 64, z] x = y
  subst hm
  cases h : okq n st y with
  | true =>
    rw [level_ok _ _ _ _ h, rlevel_ok _ _ _ _ h, value_ok _ _ _ _ h, rvalue_ok _ _ _ _ h]
    simp only [Option.bind_some, if_true]
    rw [w64 (by omega) (by omega)]
  | false =>
    rw [level_no _ _ _ _ h, rlevel_no _ _ _ _ h, value_no _ _ _ _ h, rvalue_no _ _ _ _ h]
    simp only [Option.bind_some, if_true]
    rw [w64 (by omega) (by omega)]

theorem QuantLevels : zoetropelaw09_QuantLevels.Pure := by
  intro n st z _ _ _
  refine ⟨8, ?_⟩
  unfold zoetropelaw09_QuantLevels.f
  rw [round 6 n st z 0 (by omega) (by omega), round 5 n st z _ (by omega) (by omega), round 4 n st z _ (by omega) (by omega), round 3 n st z _ (by omega) (by omega), round 2 n st z _ (by omega) (by omega), round 1 n st z _ (by omega) (by omega)]
  simp only [zoetropelaw09_QuantLevels.l0]
  rw [if_neg (by omega), works_eq]; rfl

end Go.Proofs.Ytgflgeblimiocaa.Pure
