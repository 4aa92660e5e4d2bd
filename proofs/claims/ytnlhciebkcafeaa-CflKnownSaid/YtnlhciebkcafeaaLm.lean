/- The walk of the law CflMean. -/
import Derived.Test.YtnlhciebkcafeaaLa
import Derived.Test.YtnlhciebkcafeaaCm
import Derived.Test.YtnlhciebkcafeaaLow
namespace Go.Proofs.Ytnlhciebkcafeaa.Lm
open Go.RowKit Go.Proofs.Ytnlhciebkcafeaa.PCflMean Go.Proofs.YtnlhciebkcafeaaW.PrintWords Go.Proofs.YtnlhciebkcafeaaW.PrintLast Go.Proofs.YtnlhciebkcafeaaW.PrintMore Go.Proofs.Ytnlhciebkcafeaa.Cf Go.Proofs.Ytnlhciebkcafeaa.Ac Go.Proofs.Ytnlhciebkcafeaa.Cm Go.Proofs.Ytnlhciebkcafeaa.Open Go.Proofs.Ytnlhciebkcafeaa.La Go.Proofs.Ytnlhciebkcafeaa.Low

attribute [local go_sem] max2_int min2_int max_two min_two   -- for this text's walks alone

theorem bring_any (a : Int) (w : World) : Calls Try.prog 17 #[.int .i64 a, .int .i64 8] w fun e w' => e = .returned (.int .i64 (a % 8)) ∧ Below w.heap.size w w' :=
  (zoetroperef00_Bring.calls a 8 (a % 8) w (bring_eq a 8 (by omega) (by omega))).mono fun _ _ ⟨he, ⟨nd, hw⟩⟩ => ⟨he, by subst hw; exact pw_below_drewN (Below.refl _ _) _⟩

/-- A block in order. -/
theorem ac_good (xs : List Int) (w h : Nat) (w0 : 4 ≤ w) (w1 : w ≤ 32) (w2 : w % 4 = 0) (h0 : 4 ≤ h) (h1 : h ≤ 32) (h2 : h % 4 = 0) (hl : xs.length = 4 * w * h) : acErr xs w h = 0 ∧ acAns xs w h = acs xs w h := by
  have ho : Cp.acOk xs w h = true := by
    unfold Cp.acOk
    simp only [Bool.and_eq_true, Cp.sideB_iff, decide_eq_true_eq]
    refine ⟨by omega, by omega, ?_⟩
    rw [hl]; simp [Int.natCast_mul]
  unfold acErr acAns
  rw [ho]
  exact ⟨rfl, rfl⟩
set_option maxRecDepth 100000 in
set_option maxHeartbeats 2000000 in
theorem mean_walk (a0 : Option Addr) (c0 : Nat) (l0 : List Int) (n0 n1 by0 : Int) (W : World) (hby : Bytes l0) (hC : Kd.C (Kd.int .u8) W a0 l0.length l0) (hc : l0.length ≤ c0) (hb0 : 0 ≤ by0 ∧ by0 ≤ 255) :
    Calls Try.prog 5 #[.slice a0 l0.length c0, .agg #[.int .i64 n0, .int .i64 n1], .int .u8 by0] W fun e w' => e = .returned (.bool true) ∧ Below W.heap.size W w' := by
  have q0 : 0 ≤ n0 % 8 ∧ n0 % 8 < 8 := by omega
  have q1 : 0 ≤ n1 % 8 ∧ n1 % 8 < 8 := by omega
  have HC := Aside0.mk hC
  have HY := Aside0.mk hby
  clear hC hby
  go_enter Try.func5, Try.ntmps5
  go_wp2_with fail
  refine (Wo.works_any _).mono ?_
  rintro e w1 ⟨rfl, hb1⟩
  have z1 : W.heap.size < w1.heap.size := by have := hb1.size; simp at this; omega
  have g1 := (hb1.block W.heap.size (by simp)).trans (heap_alloc_new W _)
  have x0 : ∀ x : Lo w1, x.val.cell? ⟨W.heap.size, 0, none⟩ = some (.int .i64 n0) := fun x => by
    rw [x.cell z1]; unfold World.cell?; rw [g1]; rfl
  have x1 : ∀ x : Lo w1, x.val.cell? ⟨W.heap.size, 1, none⟩ = some (.int .i64 n1) := fun x => by
    rw [x.cell z1]; unfold World.cell?; rw [g1]; rfl
  have HB1 := Aside0.mk (below_step (below_alloc (Below.refl W.heap.size W) _) hb1)
  clear hb1 g1
  go_wp2_with fail
  refine wp_region_low (by kernel_rfl) (by kernel_rfl) ?_
  repeat (go_big_quiet_step (first | (go_at_call 17; exact lo_call (bring_any _ _))))
  refine wpQuiet_nil ?_
  rintro _ ⟨x, rfl⟩
  have HB2 := Aside0.mk (HB1.out.trans (x.property.mono HB1.out.size))
  clear x0 x1 z1 HB1
  generalize x.val = w2 at *
  have HWW := Aside0.mk HB2.out.size
  obtain ⟨wn, hwn⟩ : ∃ wn : Nat, 4 + 4 * (n0 % 8) = (wn : Int) := ⟨(4 + 4 * (n0 % 8)).toNat, by omega⟩
  obtain ⟨hn, hhn⟩ : ∃ hn : Nat, 4 + 4 * (n1 % 8) = (hn : Int) := ⟨(4 + 4 * (n1 % 8)).toNat, by omega⟩
  rw [hwn, hhn]
  have k1 : 4 ≤ wn ∧ wn ≤ 32 ∧ wn % 4 = 0 := by omega
  have k2 : 4 ≤ hn ∧ hn ≤ 32 ∧ hn % 4 = 0 := by omega
  have hN : wn * hn ≤ 1024 := Nat.mul_le_mul k1.2.1 k2.2.1
  have hN0 : 16 ≤ wn * hn := Nat.mul_le_mul k1.1 k2.1
  obtain ⟨kl, xs, hlu, hxl, hxb⟩ := luma_any l0 wn hn HY.out (by rw [Nat.mul_assoc]; omega) k1.2.1
  have HLU := Aside0.mk hlu
  have HXL := Aside0.mk hxl
  have HXB := Aside0.mk hxb
  have hx16 : 16 ≤ xs.length := by rw [hxl, Nat.mul_assoc]; omega
  have hx4 : xs.length ≤ 4096 := by rw [hxl, Nat.mul_assoc]; omega
  obtain ⟨eA, aA⟩ := ac_good xs wn hn k1.1 k1.2.1 k1.2.2 k2.1 k2.2.1 k2.2.2 hxl
  have EA := Aside0.mk eA
  have AA := Aside0.mk aA
  have K1 := Aside0.mk k1
  have K2 := Aside0.mk k2
  clear hwn hhn hlu hxl hxb eA aA q0 q1 k1 k2
  go_wp2_with fail
  refine (zoetropelaw13_luma.calls kl a0 c0 l0 wn hn xs _ (Kd.C_below HC.out HB2.out) hc HLU.out).mono ?_
  rintro e w3 ⟨v3, rfl, hr3, hb3⟩
  obtain ⟨g3, c3, rfl, gb3, gl3, -, -⟩ := Kd.R_form hr3 (by omega)
  obtain ⟨-, hl3, hC3⟩ := Kd.R_reads' hr3
  have HB3 := Aside0.mk (HB2.out.trans (hb3.mono HB2.out.size))
  clear HB2
  go_wp2_with fail
  refine (ac_any _ c3 xs wn hn _ HXB.out hC3 hl3 (by have := K1.out; omega) (by have := K2.out; omega)).mono ?_
  rw [EA.out, AA.out]
  rintro e w4 ⟨v4, rfl, hr4, hb4⟩
  obtain ⟨A4, c4, rfl, hl4, hC4⟩ := Kd.R_reads hr4
  have hr3' := Kd.R_below hr3 hb4
  have HB4 := Aside0.mk (HB3.out.trans (hb4.mono HB3.out.size))
  clear hr3 hb3 HB3 hC3
  rw [acs_length] at hl4 hC4 hr4 ⊢
  have eN : (wn : Int) * (hn : Int) = ((wn * hn : Nat) : Int) := by rw [Int.natCast_mul]
  obtain ⟨N, eN'⟩ : ∃ N, wn * hn = N := ⟨_, rfl⟩
  rw [eN'] at eN hN hN0 hl4 hC4 hr4 ⊢
  have HA := Aside0.mk (fun (i : Nat) (hi : i < N) => acs_in HXB.out wn hn i (by omega))
  have HP := Aside0.mk (fun (i : Nat) (hi : i ≤ N) => ps_in HXB.out wn hn i (by omega))
  have HS := Aside0.mk (acs_sum xs wn hn (by omega))
  have HPN := Aside0.mk (ps_all xs wn hn)
  have HSL := Aside0.mk (acs_length xs wn hn)
  rw [eN'] at HS HPN HSL
  have EN := Aside0.mk eN'
  have HR4 := Aside0.mk (Kd.R_mono (Kd.R_bound hr4) (ok' := fun k => w3.heap.size ≤ k) (fun k h => h.2.1))
  have GB3 := Aside0.mk gb3
  have GL3 := Aside0.mk gl3
  have HC4 := Aside0.mk hC4
  have HR3 := Aside0.mk hr3'
  have HBB := Aside0.mk (Below.refl w4.heap.size w4)
  clear hr4 hC4 hr3' eN' gb3 gl3
  go_wp2_with fail
  go_loopw [12, 13] (fun v12 v13 wr => ∃ y : Nat, y ≤ N ∧ v13 = .int .i64 y ∧ v12 = .int .i64 (ps (acs xs wn hn) y) ∧ Aside0 (Below w4.heap.size w4 wr)) (fun _ v13 _ => N - (intOf v13).toNat)
  case atStart => exact ⟨0, Nat.zero_le _, rfl, rfl, HBB⟩
  case round =>
    clear HBB
    obtain ⟨y, hy, rfl, rfl, HBB⟩ := hrel
    have hp := HP.out y hy
    by_cases hly : y < N
    · have ha := HA.out y hly
      have hs := ps_succ (acs xs wn hn) y (by rw [HSL.out]; exact hly)
      obtain ⟨ad, e1, hx⟩ := Kd.at_int (Kd.C_below HC4.out HBB.out) (y : Int) (by omega) (by omega)
      rw [Int.toNat_natCast] at hx
      obtain rfl := e1
      have hx2 : wr.cell? (ad.add y) = some (.int .i64 ((acs xs wn hn).getD y 0)) := hx
      obtain ⟨z, hz⟩ : ∃ z, (acs xs wn hn).getD y 0 = z := ⟨_, rfl⟩
      rw [hz] at ha hs hx2
      obtain ⟨t, ht⟩ : ∃ t, ps (acs xs wn hn) y = t := ⟨_, rfl⟩
      rw [ht] at hs hp ⊢
      have HS1 := Aside0.mk hs
      clear hx hz ht hs
      have hab : ¬ (if z < 0 then -z else z) > 2040 := by split <;> omega
      go_wp2_with (go_at_call 19; (with_reducible refine (zoetroperef00_Abs.calls z _ _ (abs_eq z (by omega))).mono ?_); rintro e w' ⟨rfl, ⟨nd, rfl⟩⟩)
      exact ⟨⟨y + 1, by omega, rfl, by rw [HS1.out], ⟨pw_below_drewN HBB.out nd⟩⟩, by simp [intOf]; omega⟩
    · obtain rfl : N = y := by omega
      rw [HPN.out] at hp ⊢
      obtain ⟨sm, hsm⟩ : ∃ sm, (acs xs wn hn).sum = sm := ⟨_, rfl⟩
      rw [hsm] at hp HS ⊢
      clear hp HA HP HPN hsm hly hy
      go_wp2_with fail
      have HM0 : Aside0 (∀ j : Nat, j < 0 → xs.getD j 0 ≤ 0) := ⟨fun j h => absurd h (Nat.not_lt_zero _)⟩
      go_loopw [14, 15] (fun v14 v15 w5 => ∃ (y : Nat) (m : Int), y ≤ xs.length ∧ v15 = .int .i64 y ∧ v14 = .int .u8 m ∧ (0 ≤ m ∧ m ≤ 255) ∧ Aside0 (∀ j : Nat, j < y → xs.getD j 0 ≤ m) ∧ Aside0 (Below w4.heap.size w4 w5)) (fun _ v15 _ => xs.length - (intOf v15).toNat)
      case atStart => exact ⟨0, 0, Nat.zero_le _, rfl, rfl, by omega, HM0, HBB⟩
      case round =>
        clear HBB HM0
        obtain ⟨y, m, hy, rfl, rfl, hm, HM, HBB⟩ := hrel
        by_cases hly : y < xs.length
        · obtain ⟨hx, hxf⟩ := Kd.R_celln 0 (Kd.R_below HR3.out HBB.out) (y : Int) (by omega) (by omega)
          rw [Int.toNat_natCast] at hx hxf
          have hx2 : wr.cell? ⟨g3, y, none⟩ = some (.int .u8 (xs.getD y 0)) := hx
          have hb := getD_byte HXB.out y
          obtain ⟨z, hz⟩ : ∃ z, xs.getD y 0 = z := ⟨_, rfl⟩
          rw [hz] at hb hx2
          have HZ := Aside0.mk hz
          clear hx hz hxf
          go_wp2_with fail
          exact ⟨⟨y + 1, max m z, by omega, rfl, by rw [show (if m < z then z else m) = max m z by split <;> omega], by omega, ⟨fun j hj => by
            rcases Nat.lt_or_ge j y with h | h
            · have := HM.out j h
              omega
            · obtain rfl : j = y := by omega
              rw [HZ.out]; omega⟩, HBB⟩, by simp [intOf]; omega⟩
        · obtain rfl : y = xs.length := by omega
          clear hly hy
          have HM1 := Aside0.mk hm
          go_wp2_with fail
          case' inl => obtain ⟨b, hb⟩ : ∃ b, 255 - m = b := ⟨_, rfl⟩
          case' inr => obtain ⟨b, hb⟩ : ∃ b, by0 = b := ⟨_, rfl⟩
          all_goals (have hbm : 0 ≤ b ∧ b ≤ 255 - m := by have := HM1.out; omega)
          all_goals rw [hb]
          all_goals clear hb
          all_goals (
            have HR0 := Aside0.mk (show Kd.R (Kd.int .u8) 5 wr w2.heap.size (fun _ => True) (.slice (some ⟨g3, 0, none⟩) xs.length c3) (upg (· + b) xs 0) from by rw [upg_zero]; exact Kd.R_below HR3.out HBB.out)
            have HQ0 := Aside0.mk (Kd.R_below HR4.out HBB.out)
            have HW0 := Aside0.mk (HB4.out.trans (HBB.out.mono HB4.out.size))
            have HI := Aside0.mk (show ∀ j : Nat, j < xs.length → 0 ≤ xs.getD j 0 ∧ xs.getD j 0 + b ≤ 255 from fun j hj => by have h1 := HM.out j hj; have h2 := (getD_byte HXB.out j).1; omega)
            have hbz := hbm.1
            clear HBB HM HM1 hm hbm
            go_loopw [16] (fun v16 w6 => ∃ y : Nat, y ≤ xs.length ∧ v16 = .int .i64 y ∧ Aside0 (Kd.R (Kd.int .u8) 5 w6 w2.heap.size (fun _ => True) (.slice (some ⟨g3, 0, none⟩) xs.length c3) (upg (· + b) xs y)) ∧ Aside0 (Kd.R (Kd.int .i64) 3 w6 w3.heap.size (fun k => w3.heap.size ≤ k) (.slice A4 N c4) (acs xs wn hn)) ∧ Aside0 (Below W.heap.size W w6)) (fun v16 _ => xs.length - (intOf v16).toNat)
            case atStart => exact ⟨0, Nat.zero_le _, rfl, HR0, HQ0, HW0⟩
            case round =>
              clear HR0 HQ0 HW0
              obtain ⟨y, hy, rfl, HO, HQ, HW⟩ := hrel
              by_cases hly : y < xs.length
              · have hi := HI.out y hly
                obtain ⟨hx, hf⟩ := Kd.R_celln 0 HO.out (y : Int) (by omega) (by omega)
                rw [Int.toNat_natCast] at hx hf
                have hg : rdOf 0 (upg (· + b) xs y) (y : Int) = xs.getD y 0 := by unfold rdOf; rw [Int.toNat_natCast]; exact upg_get _ xs y hly
                rw [hg] at hx
                have HP := Aside0.mk (Kd.R_putg HO.out (y : Int) (xs.getD y 0 + b))
                rw [Int.toNat_natCast, upg_set (· + b) xs y hly] at HP
                obtain ⟨z, hz⟩ : ∃ z, xs.getD y 0 = z := ⟨_, rfl⟩
                rw [hz] at hi hx HP
                clear hz hg
                go_wp2_with fail
                exact ⟨⟨y + 1, by omega, rfl, ⟨HP.out.1⟩, ⟨Kd.R_far HQ.out (fun k hk => by have := GL3.out; show k ≠ g3; omega) _⟩, ⟨below_set HW.out (by have := GB3.out; have := HWW.out; omega)⟩⟩, by simp [intOf]; omega⟩
              · obtain rfl : y = xs.length := by omega
                rw [upg_all] at HO
                clear hly hy
                go_wp2_with fail
                have hl5 := addl_length xs b
                have hy5 := addl_bytes HXB.out hbz (fun j hj => (HI.out j hj).2)
                obtain ⟨-, hl5', hC5⟩ := Kd.R_reads' HO.out
                have k1 := K1.out
                have k2 := K2.out
                obtain ⟨eB, aB⟩ := ac_good (addl xs b) wn hn k1.1 k1.2.1 k1.2.2 k2.1 k2.2.1 k2.2.2 (by rw [hl5]; exact HXL.out)
                rw [addl_acs xs b wn hn (by omega) (by have := EN.out; omega) HXL.out] at aB
                have hA := ac_any (some ⟨g3, 0, none⟩) c3 (addl xs b) wn hn wr hy5 hC5 (by rw [hl5]; exact hl5') (by omega) (by omega)
                rw [eB, aB, hl5] at hA
                refine hA.mono ?_
                rintro e w7 ⟨v7, rfl, hr7, hb7⟩
                obtain ⟨A7, c7, rfl, hl7, hC7⟩ := Kd.R_reads hr7
                have HX0 := Aside0.mk (show Kd.R (Kd.int .u8) 5 w7 w2.heap.size (fun _ => True) (.slice (some ⟨g3, 0, none⟩) xs.length c3) (upg (fun _ => b) (addl xs b) 0) from by rw [upg_zero]; exact Kd.R_below HO.out hb7)
                have HA0 := Aside0.mk (Kd.R_below HQ.out hb7)
                have HWS := Aside0.mk (show w3.heap.size ≤ wr.heap.size from by obtain ⟨_, _, _, h1, h2, _⟩ := Kd.R_form HQ.out (by rw [HSL.out]; omega); omega)
                have HB0 := Aside0.mk (Kd.R_mono (Kd.R_bound hr7) (ok' := fun k => w3.heap.size ≤ k) (fun k h => Nat.le_trans HWS.out h.2.1))
                have HW0 := Aside0.mk (HW.out.trans (hb7.mono HW.out.size))
                clear HO HQ HW hr7 hC7 hb7 hA hC5 hy5 k1 k2 eB aB
                rw [HSL.out] at hl7 HB0 ⊢
                have HL5 := Aside0.mk hl5
                clear hl5 hl5'
                go_wp2_with fail
                go_loopw [19] (fun v19 w6 => ∃ y : Nat, y ≤ xs.length ∧ v19 = .int .i64 y ∧ Aside0 (Kd.R (Kd.int .u8) 5 w6 w2.heap.size (fun _ => True) (.slice (some ⟨g3, 0, none⟩) xs.length c3) (upg (fun _ => b) (addl xs b) y)) ∧ Aside0 (Kd.R (Kd.int .i64) 3 w6 w3.heap.size (fun k => w3.heap.size ≤ k) (.slice A4 N c4) (acs xs wn hn)) ∧ Aside0 (Kd.R (Kd.int .i64) 3 w6 wr.heap.size (fun k => w3.heap.size ≤ k) (.slice A7 N c7) (acs xs wn hn)) ∧ Aside0 (Below W.heap.size W w6)) (fun v19 _ => xs.length - (intOf v19).toNat)
                case atStart => exact ⟨0, Nat.zero_le _, rfl, HX0, HA0, HB0, HW0⟩
                case round =>
                  clear HX0 HA0 HB0 HW0
                  obtain ⟨y, hy, rfl, HO, HQ, HQ7, HW⟩ := hrel
                  by_cases hly : y < xs.length
                  · obtain ⟨hx, hf⟩ := Kd.R_celln 0 HO.out (y : Int) (by omega) (by omega)
                    rw [Int.toNat_natCast] at hx hf
                    have HP := Aside0.mk (Kd.R_putg HO.out (y : Int) b)
                    have hup := upg_set (fun _ => b) (addl xs b) y (by rw [HL5.out]; exact hly)
                    rw [Int.toNat_natCast, hup] at HP
                    clear hup
                    go_wp2_with fail
                    exact ⟨⟨y + 1, by omega, rfl, ⟨HP.out.1⟩, ⟨Kd.R_far HQ.out (fun k hk => by have := GL3.out; show k ≠ g3; omega) _⟩, ⟨Kd.R_far HQ7.out (fun k hk => by have := GL3.out; show k ≠ g3; omega) _⟩, ⟨below_set HW.out (by have := GB3.out; have := HWW.out; omega)⟩⟩, by simp [intOf]; omega⟩
                  · obtain rfl : y = xs.length := by omega
                    have hall := upg_all (fun _ => b) (addl xs b)
                    rw [HL5.out] at hall
                    rw [hall, const_map, HL5.out] at HO
                    clear hly hy hall
                    go_wp2_with fail
                    have hyb : Bytes (List.replicate xs.length b) := fun x hx => by
                      have := (HI.out 0 (by omega)).2
                      have := (HI.out 0 (by omega)).1
                      rw [List.eq_of_mem_replicate hx]; omega
                    have hlr : (List.replicate xs.length b).length = xs.length := List.length_replicate
                    obtain ⟨-, hl8, hC8⟩ := Kd.R_reads' HO.out
                    have k1 := K1.out
                    have k2 := K2.out
                    obtain ⟨eB, aB⟩ := ac_good (List.replicate xs.length b) wn hn k1.1 k1.2.1 k1.2.2 k2.1 k2.2.1 k2.2.2 (by rw [hlr]; exact HXL.out)
                    rw [const_acs b xs.length wn hn (by omega) (by have := EN.out; omega) HXL.out, EN.out] at aB
                    have hA := ac_any (some ⟨g3, 0, none⟩) c3 (List.replicate xs.length b) wn hn wr hyb hC8 (by rw [hlr]; exact hl8) (by omega) (by omega)
                    rw [eB, aB, hlr] at hA
                    refine hA.mono ?_
                    rintro e w8 ⟨v8, rfl, hr8, hb8⟩
                    obtain ⟨A8, c8, rfl, hl8, hC8⟩ := Kd.R_reads hr8
                    obtain ⟨-, hq4, hC4⟩ := Kd.R_reads' (Kd.R_below HQ.out hb8)
                    obtain ⟨-, hq7, hC7⟩ := Kd.R_reads' (Kd.R_below HQ7.out hb8)
                    have HW8 := Aside0.mk (HW.out.trans (hb8.mono HW.out.size))
                    clear HO HQ HW HQ7 hr8 hb8 hA hyb k1 k2 eB aB hlr
                    rw [List.length_replicate] at hl8 hC8 ⊢
                    have hs := HS.out
                    have HC8 := Aside0.mk hC8
                    have HC4 := Aside0.mk hC4
                    have HC7 := Aside0.mk hC7
                    clear hC8 hC4 hC7
                    obtain ⟨av, hav⟩ : ∃ av, (if sm < 0 then -sm else sm) = av := ⟨_, rfl⟩
                    have hle : av ≤ (N : Int) / 2 := by rw [← hav]; split <;> omega
                    have HAV := Aside0.mk (show zoetroperef00_Abs.f sm = some av from by rw [abs_eq sm (by omega), hav])
                    clear hav hs
                    go_wp2_with fail
                    refine (zoetroperef00_Abs.calls sm av _ HAV.out).mono ?_
                    rintro e w' ⟨rfl, ⟨nd, rfl⟩⟩
                    go_wp2_with fail
                    have hq := PCflAcs.zoetroperef00_EqInts.calls ((acs xs wn hn).length + 1) A4 c4 (acs xs wn hn) A7 c7 (acs xs wn hn) true (w8.drewN nd) (Kd.C_drewN HC4.out nd) (by rw [HSL.out]; exact hq4) (Kd.C_drewN HC7.out nd) (by rw [HSL.out]; exact hq7) (Cp.eqi_self _ (by rw [HSL.out]; omega))
                    rw [HSL.out] at hq
                    refine hq.mono ?_
                    rintro e w' ⟨rfl, ⟨nd2, rfl⟩⟩
                    clear hq
                    have HB8 := Aside0.mk (pw_below_drewN (Below.refl w8.heap.size w8) (nd + nd2))
                    go_wp2_with ((with_reducible refine gate_dst (N := 153) rfl ?_); refine gate_guard (by kernel_rfl) ?_; refine Kd.R_make (Kd.int .i64) w8.heap.size 3 rfl (N := 153) rfl 24 _ _ rfl (N : Int) rfl rfl Try.underlying24 (.int .i64 0) 8 PCflAcs.info3 rfl (by decide) (by omega) 0 (ok := fun _ => True) (okp := fun _ => False) rfl (fun _ hk => hk.elim) trivial (by omega) (by omega) HB8.out (below_size HB8.out) ?_; intro v153 w9 ho9 hb9 hg9 hnew9)
                    rw [Int.toNat_natCast] at ho9
                    obtain ⟨A9, c9, rfl, hl9, hC9⟩ := Kd.R_reads ho9
                    have hq := PCflAcs.zoetroperef00_EqInts.calls ((List.replicate N (0 : Int)).length + 1) A8 c8 (List.replicate N 0) A9 c9 (List.replicate N 0) true w9 (Kd.C_below (by rw [List.length_replicate]; exact HC8.out) hb9) (by rw [List.length_replicate]; exact hl8) hC9 hl9 (Cp.eqi_self _ (by rw [List.length_replicate]; omega))
                    rw [List.length_replicate] at hq ⊢
                    refine hq.mono ?_
                    rintro e w' ⟨rfl, ⟨nd3, rfl⟩⟩
                    clear hq hC9 ho9
                    go_wp2_with fail
                    go_ret
                    exact ⟨rfl, pw_below_drewN (HW8.out.trans (hb9.mono HW8.out.size)) _⟩)

theorem law_mean (a0 : Option Addr) (len cap : Nat) (zs : List Int) (n0 n1 by0 : Int) (W : World) (hr : IsRow .u8 W a0 len cap zs) (_ : cap * 1 ≤ 140737488351232) (_ : (Lit.int .i64 n0).wf = true) (_ : (Lit.int .i64 n1).wf = true) (w3 : (Lit.int .u8 by0).wf = true) :
    Calls Try.prog 5 #[.slice a0 len cap, .agg #[.int .i64 n0, .int .i64 n1], .int .u8 by0] W fun e w' => e = .returned (.bool true) ∧ Below W.heap.size W w' := by
  obtain ⟨hl, hlc, hC, hwf⟩ := row_C hr
  have h := mean_walk a0 cap (zs.take len) n0 n1 by0 W (fun x hx => wf_u8 (hwf x hx)) hC (by omega) (wf_u8 w3)
  rw [hl] at h
  exact h
end Go.Proofs.Ytnlhciebkcafeaa.Lm
