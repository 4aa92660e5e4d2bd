/- The walk of the law CflPredicts. -/
import Derived.Test.YtnlhciebkcafeaaLa
import Derived.Test.YtnlhciebkcafeaaCq
namespace Go.Proofs.Ytnlhciebkcafeaa.Lp
open Go.RowKit Go.Proofs.YtnlhciebkcafeaaW.PrintWords Go.Proofs.YtnlhciebkcafeaaW.PrintLast Go.Proofs.YtnlhciebkcafeaaW.PrintMore Go.Proofs.Ytnlhciebkcafeaa.Cf Go.Proofs.Ytnlhciebkcafeaa.Pd Go.Proofs.Ytnlhciebkcafeaa.Pr Go.Proofs.Ytnlhciebkcafeaa.Open Go.Proofs.Ytnlhciebkcafeaa.La

theorem prAns_len (bs xs : List Int) (al : Int) : (prAns bs xs al).length ≤ 1024 := by
  unfold prAns
  split
  · next h => rw [prs_length]; exact (prOk_iff.1 h).1
  · simp
set_option maxRecDepth 100000 in
set_option maxHeartbeats 2000000 in
theorem predicts_walk (a0 a1 : Option Addr) (c0 c1 : Nat) (l0 l1 : List Int) (al : Int) (W : World) (hby : Bytes l0) (hC : Kd.C (Kd.int .u8) W a0 l0.length l0) (hD : Kd.C (Kd.int .i64) W a1 l1.length l1) (hc : l0.length ≤ c0) (hd : l1.length ≤ c1) (hx : l0.length ≤ 140737488351232) (hy : l1.length < 17592186044416) :
    Calls Try.prog 4 #[.slice a0 l0.length c0, .slice a1 l1.length c1, .int .i64 al] W fun e w' => e = .returned (.bool true) ∧ Below W.heap.size W w' := by
  have hcp : PCflAcs.zoetroperef00_CopyBytes.f l0 = some l0 := by unfold PCflAcs.zoetroperef00_CopyBytes.f; rw [if_pos (by simp; omega)]; rfl
  have hci : PCflPredicts.zoetroperef00_CopyInts.f l1 = some l1 := by unfold PCflPredicts.zoetroperef00_CopyInts.f; rw [if_pos (by simp; omega)]; rfl
  obtain ⟨kr, hkr⟩ := Cq.ref_any l0 l1 al hby
  have hal := prAns_len l0 l1 al
  obtain ⟨er, her⟩ : ∃ er, prErr l0 l1 al = er := ⟨_, rfl⟩
  obtain ⟨an, han⟩ : ∃ an, prAns l0 l1 al = an := ⟨_, rfl⟩
  rw [her, han] at hkr
  rw [han] at hal
  have HK := Aside0.mk hkr
  have HER := Aside0.mk her
  have HAN := Aside0.mk han
  have HY := Aside0.mk hby
  have HCP := Aside0.mk hcp
  have HCI := Aside0.mk hci
  have HC := Aside0.mk hC
  have HD := Aside0.mk hD
  clear hkr her han hby hcp hci hC hD
  go_enter Try.func4, Try.ntmps4
  go_wp2_with fail
  refine (PCflAcs.zoetroperef00_CopyBytes.calls a0 c0 l0 l0 _ HC.out hc HCP.out).mono ?_
  rintro e w1 ⟨v1, rfl, hr1, hb1⟩
  go_wp2_with fail
  refine (PCflPredicts.zoetroperef00_CopyInts.calls a1 c1 l1 l1 _ (Kd.C_below HD.out hb1) hd HCI.out).mono ?_
  rintro e w2 ⟨v2, rfl, hr2, hb2⟩
  have hr1' := Kd.R_below hr1 hb2
  have hB2 := hb1.trans (hb2.mono hb1.size)
  obtain ⟨A1, d1, rfl, hl1, hC1⟩ := Kd.R_reads hr1'
  obtain ⟨A2, d2, rfl, hl2, hC2⟩ := Kd.R_reads hr2
  go_wp2_with fail
  refine (pr_any A1 A2 d1 d2 l0 l1 al _ HY.out hC1 hC2).mono ?_
  rw [HER.out, HAN.out]
  rintro e w3 ⟨v3, rfl, hr3, hb3⟩
  have hB3 := hB2.trans (hb3.mono hB2.size)
  go_wp2_with fail
  refine (PCflPredicts.zoetroperef13_Predict.calls kr a0 c0 l0 a1 c1 l1 al an er _ (Kd.C_below HC.out hB3) hc (Kd.C_below HD.out hB3) hd HK.out).mono ?_
  rintro e w4 ⟨v4, rfl, hr4, hb4⟩
  have hb24 := hb3.trans (hb4.mono hb3.size)
  have hr3' := Kd.R_below hr3 hb4
  obtain ⟨A3, c3, rfl, hl3, hC3⟩ := Kd.R_reads hr3'
  obtain ⟨A4, c4, rfl, hl4, hC4⟩ := Kd.R_reads hr4
  go_wp2_with fail
  refine (PCflAcs.zoetroperef00_EqBytes.calls (an.length + 1) A3 c3 an A4 c4 an true _ hC3 hl3 hC4 hl4 (Cp.eqb_self an (by omega))).mono ?_
  rintro e w5 ⟨rfl, ⟨nd, rfl⟩⟩
  have HO := Aside0.mk (Kd.R_drewN hr3' nd)
  have HB := Aside0.mk (pw_below_drewN hb24 nd)
  have HR1 := Aside0.mk hr1'
  have HR2 := Aside0.mk hr2
  have HB1 := Aside0.mk hB2
  clear hr1 hr1' hr2 hr3 hr3' hr4 hb1 hb2 hb3 hb4 hB2 hB3 hC1 hC2 hC3 hC4 hb24 hl1 hl2 hl3 hl4
  go_wp2
  go_loopw [14] (fun v14 wr => ∃ (y : Nat) (ys : List Int), y ≤ an.length ∧ ys.length = an.length ∧ v14 = .int .i64 y ∧ Aside0 (Kd.R (Kd.int .u8) 5 wr w2.heap.size (fun _ => True) (.slice A3 an.length c3) ys) ∧ Aside0 (Below w2.heap.size w2 wr)) (fun v14 _ => an.length - (intOf v14).toNat)
  case atStart => exact ⟨0, an, Nat.zero_le _, rfl, rfl, HO, HB⟩
  case round =>
    clear HO HB
    obtain ⟨y, ys, hy, hys, rfl, HO, HB⟩ := hrel
    by_cases hly : y < an.length
    · obtain ⟨g, cp, he, gb, gl, cells, hgc⟩ := Kd.R_form HO.out (by omega)
      injection he with ea en ec
      subst ea
      subst ec
      clear en gl hgc cells
      have GB := Aside0.mk gb
      obtain ⟨hx0, hf0⟩ := Kd.R_celln 0 HO.out (y : Int) (by omega) (by omega)
      have HP := fun x => Kd.R_putg HO.out (y : Int) x
      rw [Int.toNat_natCast] at hx0 hf0
      simp only [Int.toNat_natCast] at HP
      have HP' := Aside0.mk HP
      clear gb HP
      go_wp2
      exact ⟨⟨y + 1, _, by omega, by rw [List.length_set]; exact hys, rfl, ⟨(HP'.out _).1⟩, ⟨below_set HB.out GB.out⟩⟩, by simp [intOf]; omega⟩
    · obtain rfl : y = an.length := by omega
      clear hly
      have hr1 := Kd.R_below HR1.out HB.out
      obtain ⟨-, hl1, hC1⟩ := Kd.R_reads' hr1
      have hr2 := Kd.R_below HR2.out HB.out
      obtain ⟨-, hl2, hC2⟩ := Kd.R_reads' hr2
      have hB := HB1.out.trans (HB.out.mono HB1.out.size)
      clear hr1 hr2
      go_wp2_with fail
      refine (PCflAcs.zoetroperef00_EqBytes.calls (l0.length + 1) A1 d1 l0 a0 c0 l0 true _ hC1 hl1 (Kd.C_below HC.out hB) hc (Cp.eqb_self l0 hx)).mono ?_
      rintro e w5 ⟨rfl, ⟨nd2, rfl⟩⟩
      go_wp2_with fail
      refine (PCflAcs.zoetroperef00_EqInts.calls (l1.length + 1) A2 d2 l1 a1 c1 l1 true _ (Kd.C_drewN hC2 _) hl2 (Kd.C_drewN (Kd.C_below HD.out hB) _) hd (Cp.eqi_self l1 (by omega))).mono ?_
      rintro e w6 ⟨rfl, ⟨nd3, rfl⟩⟩
      go_wp2_with fail
      refine (Wo.works_any _).mono ?_
      rintro e w7 ⟨rfl, hb7⟩
      go_wp2_with fail
      go_ret
      have hB' := pw_below_drewN hB (nd2 + nd3)
      exact ⟨rfl, hB'.trans (hb7.mono hB'.size)⟩

theorem law_predicts (a0 : Option Addr) (len cap : Nat) (zs : List Int) (a1 : Option Addr) (len1 cap1 : Nat) (zs1 : List Int) (al : Int) (W : World) (hr : IsRow .u8 W a0 len cap zs) (hu : cap * 1 ≤ 140737488351232) (hr1 : IsRow .i64 W a1 len1 cap1 zs1) (hu1 : cap1 * 8 ≤ 140737488351232) (_ : (Lit.int .i64 al).wf = true) :
    Calls Try.prog 4 #[.slice a0 len cap, .slice a1 len1 cap1, .int .i64 al] W fun e w' => e = .returned (.bool true) ∧ Below W.heap.size W w' := by
  obtain ⟨hl, hlc, hC, hwf⟩ := row_C hr
  obtain ⟨kl, klc, kC, kwf⟩ := row_C hr1
  have h := predicts_walk a0 a1 cap cap1 (zs.take len) (zs1.take len1) al W (fun x hx => wf_u8 (hwf x hx)) hC kC (by omega) (by omega) (by omega) (by omega)
  rw [hl, kl] at h
  exact h
end Go.Proofs.Ytnlhciebkcafeaa.Lp
