/- The walk of the law CflSigns. -/
import Derived.Test.YtnlhciebkcafeaaLa
import Derived.Test.YtnlhciebkcafeaaCs
namespace Go.Proofs.Ytnlhciebkcafeaa.Lg
open Go.RowKit Go.Proofs.Ytnlhciebkcafeaa.PCflSigns Go.Proofs.YtnlhciebkcafeaaW.PrintWords Go.Proofs.YtnlhciebkcafeaaW.PrintLast Go.Proofs.YtnlhciebkcafeaaW.PrintMore Go.Proofs.Ytnlhciebkcafeaa.Cf Go.Proofs.Ytnlhciebkcafeaa.Pd Go.Proofs.Ytnlhciebkcafeaa.Pr Go.Proofs.Ytnlhciebkcafeaa.Cs Go.Proofs.Ytnlhciebkcafeaa.Open Go.Proofs.Ytnlhciebkcafeaa.La

attribute [local go_sem] max2_int min2_int max_two min_two   -- for this text's walks alone

set_option maxRecDepth 100000 in
set_option maxHeartbeats 2000000 in
theorem signs_walk (a0 a1 : Option Addr) (c0 c1 n0 : Nat) (bs l1 : List Int) (al : Int) (W : World) (hmin : (if (1024 : Int) < (n0 : Int) then (1024 : Int) else (n0 : Int)) = (bs.length : Int)) (hn0 : n0 ≤ c0) (hn1 : n0 ≤ 9223372036854775807) (hby : Bytes bs) (hC : Kd.C (Kd.int .u8) W a0 bs.length bs) (hD : Kd.C (Kd.int .i64) W a1 l1.length l1) (hd : l1.length ≤ c1) :
    Calls Try.prog 6 #[.slice a0 n0 c0, .slice a1 l1.length c1, .int .i64 al] W fun e w' => e = .returned (.bool true) ∧ Below W.heap.size W w' := by
  have hn : bs.length ≤ 1024 := by split at hmin <;> omega
  have hnc : bs.length ≤ n0 := by split at hmin <;> omega
  have HC := Aside0.mk hC
  have HD := Aside0.mk hD
  have HY := Aside0.mk hby
  clear hC hD hby
  go_enter Try.func6, Try.ntmps6
  go_wp2_with fail
  refine (Wo.works_any _).mono ?_
  rintro e w1 ⟨rfl, hb1⟩
  go_wp2_with fail
  refine (zoetroperef00_Bring.calls al 33 (al % 33) _ (bring_eq al 33 (by omega) (by omega))).mono ?_
  rintro e w' ⟨rfl, ⟨nd, rfl⟩⟩
  obtain ⟨am, ham⟩ : ∃ am, al % 33 - 16 = am := ⟨_, rfl⟩
  have hr33 : 0 ≤ al % 33 ∧ al % 33 < 33 := by omega
  have ham1 : -16 ≤ am ∧ am ≤ 16 := by omega
  have HB1 := Aside0.mk (pw_below_drewN hb1 nd)
  clear hb1 hmin
  obtain ⟨kn, xs, hnu, hxl, hxi⟩ := nums_any l1 bs.length hn
  have HNU := Aside0.mk hnu
  have HXL := Aside0.mk hxl
  have HXI := Aside0.mk hxi
  clear hnu hxl hxi
  go_wp2_with fail
  clear ham hr33
  refine (zoetropelaw13_numbersOf.calls kn a1 c1 l1 bs.length xs _ (Kd.C_below HD.out HB1.out) hd HNU.out).mono ?_
  rintro e w2 ⟨v2, rfl, hr2, hb2⟩
  obtain ⟨A2, c2, rfl, hl2, hC2⟩ := Kd.R_reads hr2
  have HB2 := Aside0.mk (HB1.out.trans (hb2.mono HB1.out.size))
  have HC2 := Aside0.mk hC2
  clear hr2 hb2 HB1 hC2
  have HBB := Aside0.mk (Below.refl w2.heap.size w2)
  rw [HXL.out] at hl2 ⊢
  go_wp2_with ((with_reducible refine gate_dst (N := 41) rfl ?_); refine Kd.R_make (Kd.int .i64) w2.heap.size 3 rfl (N := 41) rfl 24 _ _ rfl (bs.length : Int) rfl rfl Try.underlying24 (.int .i64 0) 8 PCflAcs.info3 rfl (by decide) (by omega) 0 (ok := fun _ => True) (okp := fun _ => False) rfl (fun _ hk => hk.elim) trivial (by omega) (by omega) HBB.out (Nat.le_refl _) ?_; intro v41 w3 ho3 hb3 hg3 hnew3)
  rw [Int.toNat_natCast, ← nf_zero xs bs.length] at ho3
  have HO := Aside0.mk ho3
  have HB3 := Aside0.mk hb3
  clear ho3 hb3 hg3 hnew3 HBB
  go_loopw [10] (fun v10 w5 => ∃ y : Nat, y ≤ bs.length ∧ v10 = .int .i64 y ∧ Aside0 (Kd.R (Kd.int .i64) 3 w5 w2.heap.size (fun _ => True) v41 (nf xs bs.length y)) ∧ Aside0 (Below w2.heap.size w2 w5)) (fun v10 _ => bs.length - (intOf v10).toNat)
  case atStart => exact ⟨0, Nat.zero_le _, rfl, HO, HB3⟩
  case round =>
    clear HO HB3
    obtain ⟨y, hy, rfl, HO, HB⟩ := hrel
    by_cases hly : y < bs.length
    · obtain ⟨g, cp, rfl, gb, gl, cells, hgc⟩ := Kd.R_form HO.out (by rw [nf_length]; omega)
      rw [nf_length] at HO ⊢
      have GB := Aside0.mk gb
      clear gl cells hgc gb
      obtain ⟨hx0, hf0⟩ := Kd.R_celln 0 HO.out (y : Int) (by omega) (by omega)
      have HP := Aside0.mk (Kd.R_putg HO.out (y : Int) (-(xs.getD y 0)))
      rw [Int.toNat_natCast, nf_set xs bs.length y] at HP
      rw [Int.toNat_natCast] at hx0 hf0
      obtain ⟨ad1, e1, hb1⟩ := Kd.at_int (Kd.C_below HC2.out HB.out) (y : Int) (by omega) (by rw [HXL.out]; omega)
      obtain rfl := e1
      rw [Int.toNat_natCast] at hb1
      have hc1 : wr.cell? (ad1.add y) = some (.int .i64 (xs.getD y 0)) := hb1
      have q1 := getD_in HXI.out y
      obtain ⟨x0, hx0'⟩ : ∃ x0, xs.getD y 0 = x0 := ⟨_, rfl⟩
      rw [hx0'] at hc1 q1 HP
      clear hb1 hx0'
      go_wp2_with fail
      exact ⟨⟨y + 1, by omega, rfl, ⟨HP.out.1⟩, ⟨below_set HB.out GB.out⟩⟩, by simp [intOf]; omega⟩
    · obtain rfl : y = bs.length := by omega
      have hall := nf_all xs
      rw [HXL.out] at hall
      rw [hall] at HO
      clear hall hly hy
      obtain ⟨A3, c3, rfl, hl3, hC3⟩ := Kd.R_reads HO.out
      have hc2 := Kd.C_below HC2.out HB.out
      have HB4 := Aside0.mk (HB2.out.trans (HB.out.mono HB2.out.size))
      have hc0 := Kd.C_below HC.out HB4.out
      clear HB HO HC2
      rw [negl_length, HXL.out] at hl3 ⊢
      have HX := Aside0.mk hc2
      have HNX := Aside0.mk hC3
      have HBS := Aside0.mk hc0
      clear hc2 hC3 hc0
      obtain ⟨e1, p1⟩ := pr_ok bs xs am hn HXL.out HXI.out ham1.1 ham1.2
      have hq := pr_any a0 A2 c0 c2 bs xs am wr HY.out HBS.out HX.out
      rw [e1, p1, HXL.out] at hq
      go_wp2_with fail
      refine hq.mono ?_
      rintro e w6 ⟨v6, rfl, hr6, hb6⟩
      have HR6 := Aside0.mk hr6
      have HB6 := Aside0.mk (HB4.out.trans (hb6.mono HB4.out.size))
      have HBS6 := Aside0.mk (Kd.C_below HBS.out hb6)
      have HX6 := Aside0.mk (Kd.C_below HX.out hb6)
      have HNX6 := Aside0.mk (Kd.C_below HNX.out hb6)
      clear hq e1 p1 hr6 hb6 HBS HX HNX
      -- the second
      obtain ⟨e1, p1⟩ := pr_ok bs (negl xs) (-am) hn (by rw [negl_length]; exact HXL.out) (negl_ins HXI.out) (by omega) (by omega)
      have hq := pr_any a0 A3 c0 c3 bs (negl xs) (-am) w6 HY.out HBS6.out HNX6.out
      rw [e1, p1, negl_length, HXL.out, prs_neg] at hq
      go_wp2_with fail
      refine hq.mono ?_
      rintro e w7 ⟨v7, rfl, hr7, hb7⟩
      have HR6' := Aside0.mk (Kd.R_below HR6.out hb7)
      have HR7 := Aside0.mk hr7
      have HB7 := Aside0.mk (HB6.out.trans (hb7.mono HB6.out.size))
      have HBS7 := Aside0.mk (Kd.C_below HBS6.out hb7)
      have HX7 := Aside0.mk (Kd.C_below HX6.out hb7)
      clear hq e1 p1 hr7 hb7 HBS6 HX6 HNX6 HR6
      -- the third
      obtain ⟨e1, p1⟩ := pr_ok bs xs (-am) hn HXL.out HXI.out (by omega) (by omega)
      have hq := pr_any a0 A2 c0 c2 bs xs (-am) w7 HY.out HBS7.out HX7.out
      rw [e1, p1, HXL.out] at hq
      go_wp2_with fail
      refine hq.mono ?_
      rintro e w8 ⟨v8, rfl, hr8, hb8⟩
      have HR6 := Aside0.mk (Kd.R_below HR6'.out hb8)
      have HR7' := Aside0.mk (Kd.R_below HR7.out hb8)
      have HR8 := Aside0.mk hr8
      have HB8 := Aside0.mk (HB7.out.trans (hb8.mono HB7.out.size))
      have HBS8 := Aside0.mk (Kd.C_below HBS7.out hb8)
      have HX8 := Aside0.mk (Kd.C_below HX7.out hb8)
      clear hq e1 p1 hr8 hb8 HBS7 HX7 HR6' HR7
      -- the fourth
      obtain ⟨e1, p1⟩ := pr_ok bs xs 0 hn HXL.out HXI.out (by omega) (by omega)
      have hq := pr_any a0 A2 c0 c2 bs xs 0 w8 HY.out HBS8.out HX8.out
      rw [e1, p1, HXL.out, prs_zero HY.out] at hq
      go_wp2_with fail
      refine hq.mono ?_
      rintro e w9 ⟨v9, rfl, hr9, hb9⟩
      have HR6' := Aside0.mk (Kd.R_below HR6.out hb9)
      have HR7 := Aside0.mk (Kd.R_below HR7'.out hb9)
      have HR8' := Aside0.mk (Kd.R_below HR8.out hb9)
      have HR9 := Aside0.mk hr9
      have HB9 := Aside0.mk (HB8.out.trans (hb9.mono HB8.out.size))
      have HBS9 := Aside0.mk (Kd.C_below HBS8.out hb9)
      have HX9 := Aside0.mk (Kd.C_below HX8.out hb9)
      clear hq e1 p1 hr9 hb9 HBS8 HX8 HR6 HR7' HR8
      -- the fifth
      have HBB := Aside0.mk (Below.refl w9.heap.size w9)
      go_wp2_with ((with_reducible refine gate_dst (N := 87) rfl ?_); refine Kd.R_make (Kd.int .i64) w9.heap.size 3 rfl (N := 87) rfl 24 _ _ rfl (bs.length : Int) rfl rfl Try.underlying24 (.int .i64 0) 8 PCflAcs.info3 rfl (by decide) (by omega) 0 (ok := fun _ => True) (okp := fun _ => False) rfl (fun _ hk => hk.elim) trivial (by omega) (by omega) HBB.out (Nat.le_refl _) ?_; intro v87 w10 ho10 hb10 hg10 hnew10)
      rw [Int.toNat_natCast] at ho10
      obtain ⟨A10, c10, rfl, hl10, hC10⟩ := Kd.R_reads ho10
      obtain ⟨e1, p1⟩ := pr_ok bs (List.replicate bs.length 0) am hn List.length_replicate (zeros_ins _) (by omega) (by omega)
      have hq := pr_any a0 A10 c0 c10 bs (List.replicate bs.length 0) am w10 HY.out (Kd.C_below HBS9.out hb10) hC10
      rw [e1, p1, List.length_replicate, prs_noughts HY.out] at hq
      rw [List.length_replicate]
      refine hq.mono ?_
      rintro e w11 ⟨v11, rfl, hr11, hb11⟩
      have hb := hb10.trans (hb11.mono hb10.size)
      have HR6 := Aside0.mk (Kd.R_below HR6'.out hb)
      have HR7' := Aside0.mk (Kd.R_below HR7.out hb)
      have HR8 := Aside0.mk (Kd.R_below HR8'.out hb)
      have HR9' := Aside0.mk (Kd.R_below HR9.out hb)
      have HR11 := Aside0.mk hr11
      have HB11 := Aside0.mk (HB9.out.trans (hb.mono HB9.out.size))
      have HBS11 := Aside0.mk (Kd.C_below HBS9.out hb)
      have HX11 := Aside0.mk (Kd.C_below HX9.out hb)
      clear hq e1 p1 hr11 hb11 hb hb10 HBS9 HX9 HR6' HR7 HR8' HR9 HBB hg10 hnew10 ho10 hl10 hC10 HB2 HB4 HB6 HB7 HB8 HB9 HNU
      obtain ⟨P6, d6, rfl, hl6, hC6⟩ := Kd.R_reads HR6.out
      obtain ⟨P7, d7, rfl, hl7, hC7⟩ := Kd.R_reads HR7'.out
      obtain ⟨P8, d8, rfl, hl8, hC8⟩ := Kd.R_reads HR8.out
      obtain ⟨P9, d9, rfl, hl9, hC9⟩ := Kd.R_reads HR9'.out
      obtain ⟨P11, d11, rfl, hl11, hC11⟩ := Kd.R_reads HR11.out
      clear HR6 HR7' HR8 HR9' HR11
      have HC6 := Aside0.mk hC6
      have HC7 := Aside0.mk hC7
      have HC8 := Aside0.mk hC8
      have HC9 := Aside0.mk hC9
      have HC11 := Aside0.mk hC11
      clear hC6 hC7 hC8 hC9 hC11
      rw [prs_length] at hl6 hl7 hl8 ⊢
      rw [prs_length]
      go_wp2_with fail
      have hq := PCflAcs.zoetroperef00_EqBytes.calls ((prs bs xs am bs.length).length + 1) P6 d6 (prs bs xs am bs.length) P7 d7 (prs bs xs am bs.length) true w11 HC6.out (by rw [prs_length]; exact hl6) HC7.out (by rw [prs_length]; exact hl7) (Cp.eqb_self _ (by rw [prs_length]; omega))
      rw [prs_length] at hq
      refine hq.mono ?_
      rintro e w' ⟨rfl, ⟨nd2, rfl⟩⟩
      clear hq
      go_wp2_with fail
      refine (PCflAcs.zoetroperef00_EqBytes.calls (bs.length + 1) P9 d9 bs a0 c0 bs true _ (Kd.C_drewN HC9.out _) hl9 (Kd.C_drewN HBS11.out _) (by omega) (Cp.eqb_self bs (by omega))).mono ?_
      rintro e w' ⟨rfl, ⟨nd3, rfl⟩⟩
      go_wp2_with fail
      refine (PCflAcs.zoetroperef00_EqBytes.calls (bs.length + 1) P11 d11 bs a0 c0 bs true _ (Kd.C_drewN HC11.out _) hl11 (Kd.C_drewN HBS11.out _) (by omega) (Cp.eqb_self bs (by omega))).mono ?_
      rintro e w' ⟨rfl, ⟨nd4, rfl⟩⟩
      go_wp2_with fail
      have HBB := Aside0.mk (pw_below_drewN (Below.refl w11.heap.size w11) (nd2 + nd3 + nd4))
      go_loopw [21] (fun v21 w5 => ∃ y : Nat, y ≤ bs.length ∧ v21 = .int .i64 y ∧ Aside0 (Below w11.heap.size w11 w5)) (fun v21 _ => bs.length - (intOf v21).toNat)
      case atStart => exact ⟨0, Nat.zero_le _, rfl, HBB⟩
      case round =>
        clear HBB
        obtain ⟨y, hy, rfl, HB⟩ := hrel
        by_cases hly : y < bs.length
        · obtain ⟨b, hb⟩ : ∃ b, bs.getD y 0 = b := ⟨_, rfl⟩
          obtain ⟨A, hA⟩ : ∃ A, pv bs xs am y = A := ⟨_, rfl⟩
          obtain ⟨C, hC⟩ : ∃ C, pv bs xs (-am) y = C := ⟨_, rfl⟩
          obtain ⟨x, hx⟩ : ∃ x, xs.getD y 0 = x := ⟨_, rfl⟩
          obtain ⟨p, hp⟩ : ∃ p, am * xs.getD y 0 = p := ⟨_, rfl⟩
          obtain ⟨hb1, hA1, hC1, h1, h2, h3⟩ := place HY.out xs am y b A C p hb hA hC hp
          have q1 := getD_in HXI.out y
          have q2 := mul_in ham1.1 ham1.2 q1.1 q1.2
          rw [hp] at q2
          rw [hx] at hp q1
          obtain ⟨ad0, e0, c0'⟩ := Kd.at_int (Kd.C_below HBS11.out HB.out) (y : Int) (by omega) (by omega)
          obtain ⟨ad6, e6, c6'⟩ := Kd.at_int (Kd.C_below HC6.out HB.out) (y : Int) (by omega) (by rw [prs_length]; omega)
          obtain ⟨ad8, e8, c8'⟩ := Kd.at_int (Kd.C_below HC8.out HB.out) (y : Int) (by omega) (by rw [prs_length]; omega)
          obtain ⟨ad2, e2, c2'⟩ := Kd.at_int (Kd.C_below HX11.out HB.out) (y : Int) (by omega) (by rw [HXL.out]; omega)
          obtain rfl := e0
          obtain rfl := e6
          obtain rfl := e8
          obtain rfl := e2
          rw [Int.toNat_natCast, rd_nat] at c0' c6' c8' c2'
          rw [prs_get bs xs _ _ y hly] at c6' c8'
          rw [hb] at c0'
          rw [hA] at c6'
          rw [hC] at c8'
          rw [hx] at c2'
          have H1 := Aside0.mk h1
          have H2 := Aside0.mk h2
          have H3 := Aside0.mk h3
          have HP := Aside0.mk hp
          clear h1 h2 h3 hb hA hC hx hp
          go_wp2_with fail
          go_quiet (fail)
          have HP1 := HP.out
          go_wp2_with fail
          all_goals (first
            | (exfalso; have k1 := H1.out; have k2 := H2.out; have k3 := H3.out; omega)
            | exact ⟨⟨y + 1, by omega, rfl, ⟨pw_below_drewN HB.out _⟩⟩, by simp [intOf]; omega⟩)
        · go_wp2_with fail
          go_ret
          exact ⟨rfl, HB11.out.trans (HB.out.mono HB11.out.size)⟩

theorem law_signs (a0 : Option Addr) (len cap : Nat) (zs : List Int) (a1 : Option Addr) (len1 cap1 : Nat) (zs1 : List Int) (al : Int) (W : World) (hr : IsRow .u8 W a0 len cap zs) (hu : cap * 1 ≤ 140737488351232) (hr1 : IsRow .i64 W a1 len1 cap1 zs1) (_ : cap1 * 8 ≤ 140737488351232) (_ : (Lit.int .i64 al).wf = true) :
    Calls Try.prog 6 #[.slice a0 len cap, .slice a1 len1 cap1, .int .i64 al] W fun e w' => e = .returned (.bool true) ∧ Below W.heap.size W w' := by
  obtain ⟨hl, hlc, hC, hwf⟩ := row_C hr
  obtain ⟨kl, klc, kC, kwf⟩ := row_C hr1
  have ht := Kd.C_take (m := min len 1024) hC (by omega)
  have hb : Bytes ((zs.take len).take (min len 1024)) := fun x hx => wf_u8 (hwf x (List.mem_of_mem_take hx))
  have h := signs_walk a0 a1 cap cap1 len ((zs.take len).take (min len 1024)) (zs1.take len1) al W (by rw [List.length_take, hl]; split <;> omega) hlc (by omega) hb ht kC (by omega)
  rw [kl] at h
  exact h
end Go.Proofs.Ytnlhciebkcafeaa.Lg
