/- QuantBack's walk: a level that comes to a value is found again, by the printed contracts of its callees; one theorem a size. No conditions. -/
import Derived.Test.YtgflgeblimiocaaPQuantBackx1
import Derived.Test.YtgflgeblimiocaaQB
namespace Go.Proofs.Ytgflgeblimiocaa.Back
open Go.RowKit Go.Proofs.Ytgflgeblimiocaa.PQuantBack Go.Proofs.YtgflgeblimiocaaW.PrintWords Go.Proofs.YtgflgeblimiocaaW.PrintLast Go.Proofs.YtgflgeblimiocaaW.PrintMore Go.Proofs.Ytgflgeblimiocaa.Q
attribute [local go_sem] max2_int min2_int max_two min_two

theorem scale_eq (k : Nat) (z : Int) : quant_scale.f (k + 1) z = some (if z = 4 ∨ z = 8 ∨ z = 16 then (0, true) else if z = 32 then (1, true) else if z = 64 then (2, true) else (0, false)) := by
  unfold quant_scale.f
  by_cases h4 : z = 4
  · subst h4; rfl
  by_cases h8 : z = 8
  · subst h8; rfl
  by_cases h16 : z = 16
  · subst h16; rfl
  rw [if_neg h4, if_neg h8, if_neg (show ¬ (z = 4 ∨ z = 8 ∨ z = 16) by omega)]
  simp only [quant_scale.j0]
  rw [if_neg (by simp [h16])]
  split
  · rfl
  · split <;> rfl

theorem scaled_eq (k : Nat) (n st z : Int) : (okq n st z = true → ∃ s, quant_scaled.f (k + 1) n st z = some (ab n, s, true) ∧ ((s = 0 ∧ sc z = 1) ∨ (s = 1 ∧ sc z = 2) ∨ (s = 2 ∧ sc z = 4))) ∧
    (okq n st z = false → quant_scaled.f (k + 1) n st z = some (0, 0, false)) := by
  unfold quant_scaled.f
  rw [scale_eq]
  constructor
  · intro h
    obtain ⟨a, b, d, e, f⟩ := okq_iff.1 h
    have hw : mx n (wrap64 (-n)) = ab n := by rw [w64 (by omega) (by omega), mx_neg]
    rcases sc_cases z with ⟨k1, k2⟩ | ⟨k1, k2⟩ | ⟨k1, k2⟩ | ⟨k1, k2⟩
    · refine ⟨0, ?_, .inl ⟨rfl, k1⟩⟩
      rw [if_pos k2]; simp only [Option.bind_some]
      rw [if_pos trivial, if_neg (by omega), if_neg (by omega), if_neg (by omega), if_neg (by omega), hw]
    · refine ⟨1, ?_, .inr (.inl ⟨rfl, k1⟩)⟩
      rw [if_neg (by omega), if_pos k2]; simp only [Option.bind_some]
      rw [if_pos trivial, if_neg (by omega), if_neg (by omega), if_neg (by omega), if_neg (by omega), hw]
    · refine ⟨2, ?_, .inr (.inr ⟨rfl, k1⟩)⟩
      rw [if_neg (by omega), if_neg (by omega), if_pos k2]; simp only [Option.bind_some]
      rw [if_pos trivial, if_neg (by omega), if_neg (by omega), if_neg (by omega), if_neg (by omega), hw]
    · omega
  · intro h
    have h' : ¬ (-1048576 ≤ n ∧ n ≤ 1048576 ∧ 1 ≤ st ∧ st ≤ 32768 ∧ 0 < sc z) := fun g => by rw [okq_iff.2 g] at h; cases h
    rcases sc_cases z with ⟨k1, k2⟩ | ⟨k1, k2⟩ | ⟨k1, k2⟩ | ⟨k1, k2⟩
    · rw [if_pos k2]; simp only [Option.bind_some, if_true]
      repeat' split
      all_goals first | rfl | omega
    · rw [if_neg (by omega), if_pos k2]; simp only [Option.bind_some, if_true]
      repeat' split
      all_goals first | rfl | omega
    · rw [if_neg (by omega), if_neg (by omega), if_pos k2]; simp only [Option.bind_some, if_true]
      repeat' split
      all_goals first | rfl | omega
    · rw [if_neg (by omega), if_neg (by omega), if_neg (by omega)]; rfl

theorem level_ok (k : Nat) (c st z : Int) (h : okq c st z = true) : quant_Level.f (k + 1) c st z = some (lv c st z, 0) := by
  obtain ⟨s, hs, hc⟩ := (scaled_eq k c st z).1 h
  have hl := lv_pos h
  unfold quant_Level.f
  rw [hs]; simp only [Option.bind_some, if_true]
  rw [if_pos (by omega), if_neg (by have := okq_iff.1 h; omega), lv_code h hc]
  unfold quant_signed.f
  rw [sg_wrap hl.1 (by omega)]; rfl
theorem level_no (k : Nat) (c st z : Int) (h : okq c st z = false) : quant_Level.f (k + 1) c st z = some (0, 2) := by
  unfold quant_Level.f
  rw [(scaled_eq k c st z).2 h]; rfl
theorem value_ok (k : Nat) (l st z : Int) (h : okq l st z = true) : quant_Value.f (k + 1) l st z = some (vl l st z, 0) := by
  obtain ⟨s, hs, hc⟩ := (scaled_eq k l st z).1 h
  have hl := vl_pos h
  unfold quant_Value.f
  rw [hs]; simp only [Option.bind_some, if_true]
  rw [if_pos (by omega), vl_code h hc]
  unfold quant_signed.f
  rw [sg_wrap hl.1 (by omega)]
  simp only [Option.bind_some]
  rw [cl_eq]; rfl
theorem value_no (k : Nat) (l st z : Int) (h : okq l st z = false) : quant_Value.f (k + 1) l st z = some (0, 2) := by
  unfold quant_Value.f
  rw [(scaled_eq k l st z).2 h]; rfl
theorem works_eq (k : Nat) : zoetropelaw09_works.f (k + 1) = some true := by
  unfold zoetropelaw09_works.f
  rw [level_ok k (-100) 7 4 (by decide), value_ok k 57 7 64 (by decide)]
  decide +kernel


theorem bring_eq (a n : Int) (h0 : 0 < n) (h1 : n ≤ 4611686018427387904) : zoetroperef00_Bring.f a n = some (a % n) := bring_code a n h0 h1


set_option maxHeartbeats 1000000 in
theorem walk0 (a0 a1 a2 s : Int) (w : World) (hb1 : zoetroperef00_Bring.f a2 5 = some 0) (hb2 : zoetroperef00_Bring.f a1 32768 = some s) (hs0 : 0 ≤ s) (hs1 : s < 32768) :
    Calls Try.prog 5 #[.int .i64 a0, .int .i64 a1, .int .i64 a2] w fun e w' => e = .returned (.bool true) ∧ Below w.heap.size w w' := by
  have HB := Aside0.mk (Below.refl w.heap.size w)
  have B1 := Aside0.mk hb1
  have B2 := Aside0.mk hb2
  clear hb1 hb2
  go_enter Try.func5, Try.ntmps5
  go_wp2_with ((go_at_call 13; refine (zoetropelaw09_works.calls 1 true _ (works_eq 0)).mono ?_; rintro e w1 ⟨rfl, hb⟩; have n0_ := Aside0.mk (below_step HB.out hb); clear HB hb; have HB := n0_; clear n0_))
  refine (zoetroperef00_Bring.calls _ _ _ _ B1.out).mono ?_; rintro e w2 ⟨rfl, hd⟩
  have hb := hd.below
  have n0_ := Aside0.mk (below_step (below_alloc HB.out _) hb)
  have hc := hb.cell (p := ⟨w1.heap.size, 0, none⟩) (by simp)
  simp at hc
  clear HB hb hd; have HB := n0_; clear n0_
  go_wp2_with fail
  refine (zoetroperef00_Bring.calls _ _ _ _ B2.out).mono ?_; rintro e w3 ⟨rfl, hd⟩
  have n0_ := Aside0.mk (below_step HB.out hd.below)
  clear HB hd hc; have HB := n0_; clear n0_
  have q0 : 0 ≤ 32767 / (1 + s) := Int.ediv_nonneg (by omega) (by omega)
  have q1 : 32767 / (1 + s) ≤ 32767 := Int.ediv_le_self _ (by omega)
  go_wp2_with fail
  refine (zoetroperef00_Bring.calls _ _ _ _ (bring_eq _ _ (by omega) (by omega))).mono ?_; rintro e w4 ⟨rfl, hd⟩
  have n0_ := Aside0.mk (below_step HB.out hd.below)
  clear HB hd; have HB := n0_; clear n0_
  have r0 : 0 ≤ a0 % (2 * (32767 / (1 + s)) + 1) := Int.emod_nonneg _ (by omega)
  have r1 : a0 % (2 * (32767 / (1 + s)) + 1) ≤ 2 * (32767 / (1 + s)) := by have := Int.emod_lt_of_pos a0 (show (0 : Int) < 2 * (32767 / (1 + s)) + 1 by omega); omega
  generalize a0 % (2 * (32767 / (1 + s)) + 1) = r at *
  have K := Aside0.mk (back (r - (32767 / (1 + s))) (1 + s) 4 (by omega) (by omega) (by exact .inl rfl) (most_le (by omega) (by rfl) r0 r1))
  go_wp2_with fail
  refine (quant_Value.calls 1 _ _ _ _ _ _ (value_ok 0 _ _ _ K.out.1)).mono ?_; rintro e w5 ⟨rfl, hb⟩
  have n0_ := Aside0.mk (below_step HB.out hb)
  clear HB hb; have HB := n0_; clear n0_
  have L := Aside0.mk (level_ok 0 _ _ _ K.out.2.1)
  rw [K.out.2.2] at L
  generalize vl (r - (32767 / (1 + s))) (1 + s) 4 = v at *
  go_wp2_with fail
  refine (quant_Level.calls 1 _ _ _ _ _ _ L.out).mono ?_; rintro e w6 ⟨rfl, hb⟩
  have n0_ := Aside0.mk (below_step HB.out hb)
  clear HB hb; have HB := n0_; clear n0_
  go_wp2_with fail
  go_ret
  exact ⟨by simp, HB.out⟩


set_option maxHeartbeats 1000000 in
theorem walk1 (a0 a1 a2 s : Int) (w : World) (hb1 : zoetroperef00_Bring.f a2 5 = some 1) (hb2 : zoetroperef00_Bring.f a1 32768 = some s) (hs0 : 0 ≤ s) (hs1 : s < 32768) :
    Calls Try.prog 5 #[.int .i64 a0, .int .i64 a1, .int .i64 a2] w fun e w' => e = .returned (.bool true) ∧ Below w.heap.size w w' := by
  have HB := Aside0.mk (Below.refl w.heap.size w)
  have B1 := Aside0.mk hb1
  have B2 := Aside0.mk hb2
  clear hb1 hb2
  go_enter Try.func5, Try.ntmps5
  go_wp2_with ((go_at_call 13; refine (zoetropelaw09_works.calls 1 true _ (works_eq 0)).mono ?_; rintro e w1 ⟨rfl, hb⟩; have n0_ := Aside0.mk (below_step HB.out hb); clear HB hb; have HB := n0_; clear n0_))
  refine (zoetroperef00_Bring.calls _ _ _ _ B1.out).mono ?_; rintro e w2 ⟨rfl, hd⟩
  have hb := hd.below
  have n0_ := Aside0.mk (below_step (below_alloc HB.out _) hb)
  have hc := hb.cell (p := ⟨w1.heap.size, 1, none⟩) (by simp)
  simp at hc
  clear HB hb hd; have HB := n0_; clear n0_
  go_wp2_with fail
  refine (zoetroperef00_Bring.calls _ _ _ _ B2.out).mono ?_; rintro e w3 ⟨rfl, hd⟩
  have n0_ := Aside0.mk (below_step HB.out hd.below)
  clear HB hd hc; have HB := n0_; clear n0_
  have q0 : 0 ≤ 32767 / (1 + s) := Int.ediv_nonneg (by omega) (by omega)
  have q1 : 32767 / (1 + s) ≤ 32767 := Int.ediv_le_self _ (by omega)
  go_wp2_with fail
  refine (zoetroperef00_Bring.calls _ _ _ _ (bring_eq _ _ (by omega) (by omega))).mono ?_; rintro e w4 ⟨rfl, hd⟩
  have n0_ := Aside0.mk (below_step HB.out hd.below)
  clear HB hd; have HB := n0_; clear n0_
  have r0 : 0 ≤ a0 % (2 * (32767 / (1 + s)) + 1) := Int.emod_nonneg _ (by omega)
  have r1 : a0 % (2 * (32767 / (1 + s)) + 1) ≤ 2 * (32767 / (1 + s)) := by have := Int.emod_lt_of_pos a0 (show (0 : Int) < 2 * (32767 / (1 + s)) + 1 by omega); omega
  generalize a0 % (2 * (32767 / (1 + s)) + 1) = r at *
  have K := Aside0.mk (back (r - (32767 / (1 + s))) (1 + s) 8 (by omega) (by omega) (by exact .inl rfl) (most_le (by omega) (by rfl) r0 r1))
  go_wp2_with fail
  refine (quant_Value.calls 1 _ _ _ _ _ _ (value_ok 0 _ _ _ K.out.1)).mono ?_; rintro e w5 ⟨rfl, hb⟩
  have n0_ := Aside0.mk (below_step HB.out hb)
  clear HB hb; have HB := n0_; clear n0_
  have L := Aside0.mk (level_ok 0 _ _ _ K.out.2.1)
  rw [K.out.2.2] at L
  generalize vl (r - (32767 / (1 + s))) (1 + s) 8 = v at *
  go_wp2_with fail
  refine (quant_Level.calls 1 _ _ _ _ _ _ L.out).mono ?_; rintro e w6 ⟨rfl, hb⟩
  have n0_ := Aside0.mk (below_step HB.out hb)
  clear HB hb; have HB := n0_; clear n0_
  go_wp2_with fail
  go_ret
  exact ⟨by simp, HB.out⟩


set_option maxHeartbeats 1000000 in
theorem walk2 (a0 a1 a2 s : Int) (w : World) (hb1 : zoetroperef00_Bring.f a2 5 = some 2) (hb2 : zoetroperef00_Bring.f a1 32768 = some s) (hs0 : 0 ≤ s) (hs1 : s < 32768) :
    Calls Try.prog 5 #[.int .i64 a0, .int .i64 a1, .int .i64 a2] w fun e w' => e = .returned (.bool true) ∧ Below w.heap.size w w' := by
  have HB := Aside0.mk (Below.refl w.heap.size w)
  have B1 := Aside0.mk hb1
  have B2 := Aside0.mk hb2
  clear hb1 hb2
  go_enter Try.func5, Try.ntmps5
  go_wp2_with ((go_at_call 13; refine (zoetropelaw09_works.calls 1 true _ (works_eq 0)).mono ?_; rintro e w1 ⟨rfl, hb⟩; have n0_ := Aside0.mk (below_step HB.out hb); clear HB hb; have HB := n0_; clear n0_))
  refine (zoetroperef00_Bring.calls _ _ _ _ B1.out).mono ?_; rintro e w2 ⟨rfl, hd⟩
  have hb := hd.below
  have n0_ := Aside0.mk (below_step (below_alloc HB.out _) hb)
  have hc := hb.cell (p := ⟨w1.heap.size, 2, none⟩) (by simp)
  simp at hc
  clear HB hb hd; have HB := n0_; clear n0_
  go_wp2_with fail
  refine (zoetroperef00_Bring.calls _ _ _ _ B2.out).mono ?_; rintro e w3 ⟨rfl, hd⟩
  have n0_ := Aside0.mk (below_step HB.out hd.below)
  clear HB hd hc; have HB := n0_; clear n0_
  have q0 : 0 ≤ 32767 / (1 + s) := Int.ediv_nonneg (by omega) (by omega)
  have q1 : 32767 / (1 + s) ≤ 32767 := Int.ediv_le_self _ (by omega)
  go_wp2_with fail
  refine (zoetroperef00_Bring.calls _ _ _ _ (bring_eq _ _ (by omega) (by omega))).mono ?_; rintro e w4 ⟨rfl, hd⟩
  have n0_ := Aside0.mk (below_step HB.out hd.below)
  clear HB hd; have HB := n0_; clear n0_
  have r0 : 0 ≤ a0 % (2 * (32767 / (1 + s)) + 1) := Int.emod_nonneg _ (by omega)
  have r1 : a0 % (2 * (32767 / (1 + s)) + 1) ≤ 2 * (32767 / (1 + s)) := by have := Int.emod_lt_of_pos a0 (show (0 : Int) < 2 * (32767 / (1 + s)) + 1 by omega); omega
  generalize a0 % (2 * (32767 / (1 + s)) + 1) = r at *
  have K := Aside0.mk (back (r - (32767 / (1 + s))) (1 + s) 16 (by omega) (by omega) (by exact .inl rfl) (most_le (by omega) (by rfl) r0 r1))
  go_wp2_with fail
  refine (quant_Value.calls 1 _ _ _ _ _ _ (value_ok 0 _ _ _ K.out.1)).mono ?_; rintro e w5 ⟨rfl, hb⟩
  have n0_ := Aside0.mk (below_step HB.out hb)
  clear HB hb; have HB := n0_; clear n0_
  have L := Aside0.mk (level_ok 0 _ _ _ K.out.2.1)
  rw [K.out.2.2] at L
  generalize vl (r - (32767 / (1 + s))) (1 + s) 16 = v at *
  go_wp2_with fail
  refine (quant_Level.calls 1 _ _ _ _ _ _ L.out).mono ?_; rintro e w6 ⟨rfl, hb⟩
  have n0_ := Aside0.mk (below_step HB.out hb)
  clear HB hb; have HB := n0_; clear n0_
  go_wp2_with fail
  go_ret
  exact ⟨by simp, HB.out⟩


set_option maxHeartbeats 1000000 in
theorem walk3a (a0 a1 a2 s : Int) (w : World) (hb1 : zoetroperef00_Bring.f a2 5 = some 3) (hb2 : zoetroperef00_Bring.f a1 32768 = some s) (hs0 : 0 ≤ s) (hs1 : s < 32768) (h6 : 5 ≤ s) :
    Calls Try.prog 5 #[.int .i64 a0, .int .i64 a1, .int .i64 a2] w fun e w' => e = .returned (.bool true) ∧ Below w.heap.size w w' := by
  have HB := Aside0.mk (Below.refl w.heap.size w)
  have B1 := Aside0.mk hb1
  have B2 := Aside0.mk hb2
  clear hb1 hb2
  go_enter Try.func5, Try.ntmps5
  go_wp2_with ((go_at_call 13; refine (zoetropelaw09_works.calls 1 true _ (works_eq 0)).mono ?_; rintro e w1 ⟨rfl, hb⟩; have n0_ := Aside0.mk (below_step HB.out hb); clear HB hb; have HB := n0_; clear n0_))
  refine (zoetroperef00_Bring.calls _ _ _ _ B1.out).mono ?_; rintro e w2 ⟨rfl, hd⟩
  have hb := hd.below
  have n0_ := Aside0.mk (below_step (below_alloc HB.out _) hb)
  have hc := hb.cell (p := ⟨w1.heap.size, 3, none⟩) (by simp)
  simp at hc
  clear HB hb hd; have HB := n0_; clear n0_
  go_wp2_with fail
  refine (zoetroperef00_Bring.calls _ _ _ _ B2.out).mono ?_; rintro e w3 ⟨rfl, hd⟩
  have n0_ := Aside0.mk (below_step HB.out hd.below)
  clear HB hd hc; have HB := n0_; clear n0_
  have q0 : 0 ≤ 32767 / (1 + s) := Int.ediv_nonneg (by omega) (by omega)
  have q1 : 32767 / (1 + s) ≤ 32767 := Int.ediv_le_self _ (by omega)
  go_wp2_with fail
  refine (zoetroperef00_Bring.calls _ _ _ _ (bring_eq _ _ (by omega) (by omega))).mono ?_; rintro e w4 ⟨rfl, hd⟩
  have n0_ := Aside0.mk (below_step HB.out hd.below)
  clear HB hd; have HB := n0_; clear n0_
  have r0 : 0 ≤ a0 % (2 * (32767 / (1 + s)) + 1) := Int.emod_nonneg _ (by omega)
  have r1 : a0 % (2 * (32767 / (1 + s)) + 1) ≤ 2 * (32767 / (1 + s)) := by have := Int.emod_lt_of_pos a0 (show (0 : Int) < 2 * (32767 / (1 + s)) + 1 by omega); omega
  generalize a0 % (2 * (32767 / (1 + s)) + 1) = r at *
  have K := Aside0.mk (back (r - (32767 / (1 + s))) (1 + s) 32 (by omega) (by omega) (by exact .inr ⟨by decide, by omega⟩) (most_le (by omega) (by rfl) r0 r1))
  go_wp2_with fail
  refine (quant_Value.calls 1 _ _ _ _ _ _ (value_ok 0 _ _ _ K.out.1)).mono ?_; rintro e w5 ⟨rfl, hb⟩
  have n0_ := Aside0.mk (below_step HB.out hb)
  clear HB hb; have HB := n0_; clear n0_
  have L := Aside0.mk (level_ok 0 _ _ _ K.out.2.1)
  rw [K.out.2.2] at L
  generalize vl (r - (32767 / (1 + s))) (1 + s) 32 = v at *
  go_wp2_with fail
  refine (quant_Level.calls 1 _ _ _ _ _ _ L.out).mono ?_; rintro e w6 ⟨rfl, hb⟩
  have n0_ := Aside0.mk (below_step HB.out hb)
  clear HB hb; have HB := n0_; clear n0_
  go_wp2_with fail
  go_ret
  exact ⟨by simp, HB.out⟩


set_option maxHeartbeats 1000000 in
theorem walk3b (a0 a1 a2 s : Int) (w : World) (hb1 : zoetroperef00_Bring.f a2 5 = some 3) (hb2 : zoetroperef00_Bring.f a1 32768 = some s) (hs0 : 0 ≤ s) (hs1 : s < 32768) (h6 : s < 5) :
    Calls Try.prog 5 #[.int .i64 a0, .int .i64 a1, .int .i64 a2] w fun e w' => e = .returned (.bool true) ∧ Below w.heap.size w w' := by
  have HB := Aside0.mk (Below.refl w.heap.size w)
  have B1 := Aside0.mk hb1
  have B2 := Aside0.mk hb2
  clear hb1 hb2
  go_enter Try.func5, Try.ntmps5
  go_wp2_with ((go_at_call 13; refine (zoetropelaw09_works.calls 1 true _ (works_eq 0)).mono ?_; rintro e w1 ⟨rfl, hb⟩; have n0_ := Aside0.mk (below_step HB.out hb); clear HB hb; have HB := n0_; clear n0_))
  refine (zoetroperef00_Bring.calls _ _ _ _ B1.out).mono ?_; rintro e w2 ⟨rfl, hd⟩
  have hb := hd.below
  have n0_ := Aside0.mk (below_step (below_alloc HB.out _) hb)
  have hc := hb.cell (p := ⟨w1.heap.size, 3, none⟩) (by simp)
  simp at hc
  clear HB hb hd; have HB := n0_; clear n0_
  go_wp2_with fail
  refine (zoetroperef00_Bring.calls _ _ _ _ B2.out).mono ?_; rintro e w3 ⟨rfl, hd⟩
  have n0_ := Aside0.mk (below_step HB.out hd.below)
  clear HB hd hc; have HB := n0_; clear n0_
  go_wp2_with fail
  refine (zoetroperef00_Bring.calls _ _ _ _ (bring_eq _ _ (by omega) (by omega))).mono ?_; rintro e w4 ⟨rfl, hd⟩
  have n0_ := Aside0.mk (below_step HB.out hd.below)
  clear HB hd; have HB := n0_; clear n0_
  have r0 : 0 ≤ a0 % (10923) := Int.emod_nonneg _ (by omega)
  have r1 : a0 % (10923) ≤ 2 * 5461 := by have := Int.emod_lt_of_pos a0 (show (0 : Int) < 10923 by omega); omega
  generalize a0 % (10923) = r at *
  have K := Aside0.mk (back (r - 5461) 6 32 (by omega) (by omega) (by exact .inr ⟨by decide, by omega⟩) (most_le (by omega) (by decide) r0 r1))
  go_wp2_with fail
  refine (quant_Value.calls 1 _ _ _ _ _ _ (value_ok 0 _ _ _ K.out.1)).mono ?_; rintro e w5 ⟨rfl, hb⟩
  have n0_ := Aside0.mk (below_step HB.out hb)
  clear HB hb; have HB := n0_; clear n0_
  have L := Aside0.mk (level_ok 0 _ _ _ K.out.2.1)
  rw [K.out.2.2] at L
  generalize vl (r - 5461) 6 32 = v at *
  go_wp2_with fail
  refine (quant_Level.calls 1 _ _ _ _ _ _ L.out).mono ?_; rintro e w6 ⟨rfl, hb⟩
  have n0_ := Aside0.mk (below_step HB.out hb)
  clear HB hb; have HB := n0_; clear n0_
  go_wp2_with fail
  go_ret
  exact ⟨by simp, HB.out⟩


set_option maxHeartbeats 1000000 in
theorem walk4a (a0 a1 a2 s : Int) (w : World) (hb1 : zoetroperef00_Bring.f a2 5 = some 4) (hb2 : zoetroperef00_Bring.f a1 32768 = some s) (hs0 : 0 ≤ s) (hs1 : s < 32768) (h6 : 5 ≤ s) :
    Calls Try.prog 5 #[.int .i64 a0, .int .i64 a1, .int .i64 a2] w fun e w' => e = .returned (.bool true) ∧ Below w.heap.size w w' := by
  have HB := Aside0.mk (Below.refl w.heap.size w)
  have B1 := Aside0.mk hb1
  have B2 := Aside0.mk hb2
  clear hb1 hb2
  go_enter Try.func5, Try.ntmps5
  go_wp2_with ((go_at_call 13; refine (zoetropelaw09_works.calls 1 true _ (works_eq 0)).mono ?_; rintro e w1 ⟨rfl, hb⟩; have n0_ := Aside0.mk (below_step HB.out hb); clear HB hb; have HB := n0_; clear n0_))
  refine (zoetroperef00_Bring.calls _ _ _ _ B1.out).mono ?_; rintro e w2 ⟨rfl, hd⟩
  have hb := hd.below
  have n0_ := Aside0.mk (below_step (below_alloc HB.out _) hb)
  have hc := hb.cell (p := ⟨w1.heap.size, 4, none⟩) (by simp)
  simp at hc
  clear HB hb hd; have HB := n0_; clear n0_
  go_wp2_with fail
  refine (zoetroperef00_Bring.calls _ _ _ _ B2.out).mono ?_; rintro e w3 ⟨rfl, hd⟩
  have n0_ := Aside0.mk (below_step HB.out hd.below)
  clear HB hd hc; have HB := n0_; clear n0_
  have q0 : 0 ≤ 32767 / (1 + s) := Int.ediv_nonneg (by omega) (by omega)
  have q1 : 32767 / (1 + s) ≤ 32767 := Int.ediv_le_self _ (by omega)
  go_wp2_with fail
  refine (zoetroperef00_Bring.calls _ _ _ _ (bring_eq _ _ (by omega) (by omega))).mono ?_; rintro e w4 ⟨rfl, hd⟩
  have n0_ := Aside0.mk (below_step HB.out hd.below)
  clear HB hd; have HB := n0_; clear n0_
  have r0 : 0 ≤ a0 % (2 * (32767 / (1 + s)) + 1) := Int.emod_nonneg _ (by omega)
  have r1 : a0 % (2 * (32767 / (1 + s)) + 1) ≤ 2 * (32767 / (1 + s)) := by have := Int.emod_lt_of_pos a0 (show (0 : Int) < 2 * (32767 / (1 + s)) + 1 by omega); omega
  generalize a0 % (2 * (32767 / (1 + s)) + 1) = r at *
  have K := Aside0.mk (back (r - (32767 / (1 + s))) (1 + s) 64 (by omega) (by omega) (by exact .inr ⟨by decide, by omega⟩) (most_le (by omega) (by rfl) r0 r1))
  go_wp2_with fail
  refine (quant_Value.calls 1 _ _ _ _ _ _ (value_ok 0 _ _ _ K.out.1)).mono ?_; rintro e w5 ⟨rfl, hb⟩
  have n0_ := Aside0.mk (below_step HB.out hb)
  clear HB hb; have HB := n0_; clear n0_
  have L := Aside0.mk (level_ok 0 _ _ _ K.out.2.1)
  rw [K.out.2.2] at L
  generalize vl (r - (32767 / (1 + s))) (1 + s) 64 = v at *
  go_wp2_with fail
  refine (quant_Level.calls 1 _ _ _ _ _ _ L.out).mono ?_; rintro e w6 ⟨rfl, hb⟩
  have n0_ := Aside0.mk (below_step HB.out hb)
  clear HB hb; have HB := n0_; clear n0_
  go_wp2_with fail
  go_ret
  exact ⟨by simp, HB.out⟩


set_option maxHeartbeats 1000000 in
theorem walk4b (a0 a1 a2 s : Int) (w : World) (hb1 : zoetroperef00_Bring.f a2 5 = some 4) (hb2 : zoetroperef00_Bring.f a1 32768 = some s) (hs0 : 0 ≤ s) (hs1 : s < 32768) (h6 : s < 5) :
    Calls Try.prog 5 #[.int .i64 a0, .int .i64 a1, .int .i64 a2] w fun e w' => e = .returned (.bool true) ∧ Below w.heap.size w w' := by
  have HB := Aside0.mk (Below.refl w.heap.size w)
  have B1 := Aside0.mk hb1
  have B2 := Aside0.mk hb2
  clear hb1 hb2
  go_enter Try.func5, Try.ntmps5
  go_wp2_with ((go_at_call 13; refine (zoetropelaw09_works.calls 1 true _ (works_eq 0)).mono ?_; rintro e w1 ⟨rfl, hb⟩; have n0_ := Aside0.mk (below_step HB.out hb); clear HB hb; have HB := n0_; clear n0_))
  refine (zoetroperef00_Bring.calls _ _ _ _ B1.out).mono ?_; rintro e w2 ⟨rfl, hd⟩
  have hb := hd.below
  have n0_ := Aside0.mk (below_step (below_alloc HB.out _) hb)
  have hc := hb.cell (p := ⟨w1.heap.size, 4, none⟩) (by simp)
  simp at hc
  clear HB hb hd; have HB := n0_; clear n0_
  go_wp2_with fail
  refine (zoetroperef00_Bring.calls _ _ _ _ B2.out).mono ?_; rintro e w3 ⟨rfl, hd⟩
  have n0_ := Aside0.mk (below_step HB.out hd.below)
  clear HB hd hc; have HB := n0_; clear n0_
  go_wp2_with fail
  refine (zoetroperef00_Bring.calls _ _ _ _ (bring_eq _ _ (by omega) (by omega))).mono ?_; rintro e w4 ⟨rfl, hd⟩
  have n0_ := Aside0.mk (below_step HB.out hd.below)
  clear HB hd; have HB := n0_; clear n0_
  have r0 : 0 ≤ a0 % (10923) := Int.emod_nonneg _ (by omega)
  have r1 : a0 % (10923) ≤ 2 * 5461 := by have := Int.emod_lt_of_pos a0 (show (0 : Int) < 10923 by omega); omega
  generalize a0 % (10923) = r at *
  have K := Aside0.mk (back (r - 5461) 6 64 (by omega) (by omega) (by exact .inr ⟨by decide, by omega⟩) (most_le (by omega) (by decide) r0 r1))
  go_wp2_with fail
  refine (quant_Value.calls 1 _ _ _ _ _ _ (value_ok 0 _ _ _ K.out.1)).mono ?_; rintro e w5 ⟨rfl, hb⟩
  have n0_ := Aside0.mk (below_step HB.out hb)
  clear HB hb; have HB := n0_; clear n0_
  have L := Aside0.mk (level_ok 0 _ _ _ K.out.2.1)
  rw [K.out.2.2] at L
  generalize vl (r - 5461) 6 64 = v at *
  go_wp2_with fail
  refine (quant_Level.calls 1 _ _ _ _ _ _ L.out).mono ?_; rintro e w6 ⟨rfl, hb⟩
  have n0_ := Aside0.mk (below_step HB.out hb)
  clear HB hb; have HB := n0_; clear n0_
  go_wp2_with fail
  go_ret
  exact ⟨by simp, HB.out⟩


theorem walk (a0 a1 a2 : Int) (w : World) : Calls Try.prog 5 #[.int .i64 a0, .int .i64 a1, .int .i64 a2] w fun e w' => e = .returned (.bool true) ∧ Below w.heap.size w w' := by
  have h1 := bring_eq a2 5 (by omega) (by omega)
  have h2 := bring_eq a1 32768 (by omega) (by omega)
  have hs0 : 0 ≤ a1 % 32768 := by omega
  have hs1 : a1 % 32768 < 32768 := by omega
  have ht : a2 % 5 = 0 ∨ a2 % 5 = 1 ∨ a2 % 5 = 2 ∨ a2 % 5 = 3 ∨ a2 % 5 = 4 := by omega
  rcases ht with h | h | h | h | h <;> rw [h] at h1
  · exact walk0 a0 a1 a2 _ w h1 h2 hs0 hs1
  · exact walk1 a0 a1 a2 _ w h1 h2 hs0 hs1
  · exact walk2 a0 a1 a2 _ w h1 h2 hs0 hs1
  · by_cases h5 : 5 ≤ a1 % 32768
    · exact walk3a a0 a1 a2 _ w h1 h2 hs0 hs1 h5
    · exact walk3b a0 a1 a2 _ w h1 h2 hs0 hs1 (by omega)
  · by_cases h5 : 5 ≤ a1 % 32768
    · exact walk4a a0 a1 a2 _ w h1 h2 hs0 hs1 h5
    · exact walk4b a0 a1 a2 _ w h1 h2 hs0 hs1 (by omega)

end Go.Proofs.Ytgflgeblimiocaa.Back
