/- The walk of the law CflAcs. -/
import Derived.Test.YtnlhciebkcafeaaOpen
import Derived.Test.YtnlhciebkcafeaaWo
namespace Go.Proofs.Ytnlhciebkcafeaa.La
open Go.RowKit Go.Proofs.Ytnlhciebkcafeaa.PCflAcs Go.Proofs.YtnlhciebkcafeaaW.PrintWords Go.Proofs.YtnlhciebkcafeaaW.PrintLast Go.Proofs.YtnlhciebkcafeaaW.PrintMore Go.Proofs.Ytnlhciebkcafeaa.Cf Go.Proofs.Ytnlhciebkcafeaa.Cp Go.Proofs.Ytnlhciebkcafeaa.Ac Go.Proofs.Ytnlhciebkcafeaa.Open

theorem row_C {k : IntKind} {W : World} {a : Option Addr} {len cap : Nat} {zs : List Int} (h : IsRow k W a len cap zs) : (zs.take len).length = len ∧ len ≤ cap ∧ Kd.C (Kd.int k) W a (zs.take len).length (zs.take len) ∧ ∀ x ∈ zs.take len, (Lit.int k x).wf = true := by
  rcases h with ⟨rfl, rfl, rfl, rfl⟩ | ⟨x, rfl, h1, h2, h3, h4, h5⟩
  · exact ⟨rfl, Nat.le_refl _, Kd.C_nil _ _, by simp⟩
  · have hl : (zs.take len).length = len := by rw [List.length_take]; omega
    refine ⟨hl, h1, ?_, fun x hx => h5 x (List.mem_of_mem_take hx)⟩
    refine Kd.C_of_reads (d := 0) ⟨rfl, by unfold maxLen at h2; omega, fun _ => ⟨x, rfl, fun j hj => ?_⟩⟩
    rw [h4 j (by omega), List.getD_eq_getElem?_getD, List.getD_eq_getElem?_getD, List.getElem?_take, if_pos (by omega)]
theorem wf_i64 {a : Int} (h : (Lit.int .i64 a).wf = true) : -9223372036854775808 ≤ a ∧ a ≤ 9223372036854775807 := by
  simp [Lit.wf] at h
  have h1 : IntKind.i64.min ≤ a := h.1
  rw [show IntKind.i64.min = -9223372036854775808 from by decide +kernel] at h1
  exact ⟨h1, by simpa using h.2⟩
theorem wf_u8 {a : Int} (h : (Lit.int .u8 a).wf = true) : 0 ≤ a ∧ a ≤ 255 := by
  simp [Lit.wf] at h
  have h1 : IntKind.u8.min ≤ a := h.1
  have h2 : a ≤ IntKind.u8.max := h.2
  rw [show IntKind.u8.min = 0 from by decide +kernel] at h1
  rw [show IntKind.u8.max = 255 from by decide +kernel] at h2
  exact ⟨h1, h2⟩

set_option maxRecDepth 100000 in
set_option maxHeartbeats 2000000 in
theorem acs_walk (a0 : Option Addr) (c0 : Nat) (l0 : List Int) (a1 a2 : Int) (W : World) (hby : Bytes l0) (hC : Kd.C (Kd.int .u8) W a0 l0.length l0) (hc : l0.length ≤ c0) (hx : l0.length ≤ 140737488351232) (b1 : a1 ≤ 9223372036854775807) (b2 : a2 ≤ 9223372036854775807) :
    Calls Try.prog 3 #[.slice a0 l0.length c0, .int .i64 a1, .int .i64 a2] W fun e w' => e = .returned (.bool true) ∧ Below W.heap.size W w' := by
  have hcp : zoetroperef00_CopyBytes.f l0 = some l0 := by unfold zoetroperef00_CopyBytes.f; rw [if_pos (by simp; omega)]; rfl
  obtain ⟨kr, hkr⟩ := ref_any l0 a1 a2 hby
  have hal := acAns_len l0 a1 a2
  obtain ⟨er, her⟩ : ∃ er, acErr l0 a1 a2 = er := ⟨_, rfl⟩
  obtain ⟨an, han⟩ : ∃ an, acAns l0 a1 a2 = an := ⟨_, rfl⟩
  rw [her, han] at hkr
  rw [han] at hal
  have HK := Aside0.mk hkr
  have HER := Aside0.mk her
  have HAN := Aside0.mk han
  have HY := Aside0.mk hby
  have HCP := Aside0.mk hcp
  have HC := Aside0.mk hC
  clear hkr her han hby hcp hC
  go_enter Try.func3, Try.ntmps3
  go_wp2_with fail
  refine (zoetroperef00_CopyBytes.calls a0 c0 l0 l0 _ HC.out hc HCP.out).mono ?_
  rintro e w1 ⟨v1, rfl, hr1, hb1⟩
  obtain ⟨A1, c1, rfl, hl1, hC1⟩ := Kd.R_reads hr1
  go_wp2_with fail
  refine (ac_any A1 c1 l0 a1 a2 _ HY.out hC1 hl1 b1 b2).mono ?_
  rw [HER.out, HAN.out]
  rintro e w2 ⟨v2, rfl, hr2, hb2⟩
  have hB2 := hb1.trans (hb2.mono hb1.size)
  go_wp2_with fail
  refine (zoetroperef13_Ac.calls kr a0 c0 l0 a1 a2 an er _ (Kd.C_below HC.out hB2) hc HK.out).mono ?_
  rintro e w3 ⟨v3, rfl, hr3, hb3⟩
  have hb13 := hb2.trans (hb3.mono hb2.size)
  have hr2' := Kd.R_below hr2 hb3
  obtain ⟨A2, c2, rfl, hl2, hC2⟩ := Kd.R_reads hr2'
  obtain ⟨A3, c3, rfl, hl3, hC3⟩ := Kd.R_reads hr3
  go_wp2_with fail
  refine (zoetroperef00_EqInts.calls (an.length + 1) A2 c2 an A3 c3 an true _ hC2 hl2 hC3 hl3 (eqi_self an (by omega))).mono ?_
  rintro e w4 ⟨rfl, ⟨nd, rfl⟩⟩
  have HO := Aside0.mk (Kd.R_drewN hr2' nd)
  have HB := Aside0.mk (pw_below_drewN hb13 nd)
  have HR1 := Aside0.mk hr1
  have HB1 := Aside0.mk hb1
  clear hr2 hr2' hr3 hb2 hb3 hB2 hC2 hC3 hC1 hb13 hl2 hl3 hl1 hr1 hb1
  go_wp2
  go_loopw [13] (fun v13 wr => ∃ (y : Nat) (ys : List Int), y ≤ an.length ∧ ys.length = an.length ∧ v13 = .int .i64 y ∧ Aside0 (Kd.R (Kd.int .i64) 3 wr w1.heap.size (fun _ => True) (.slice A2 an.length c2) ys) ∧ Aside0 (Below w1.heap.size w1 wr)) (fun v13 _ => an.length - (intOf v13).toNat)
  case atStart => exact ⟨0, an, Nat.zero_le _, rfl, rfl, HO, HB⟩
  case round =>
    clear HO HB
    obtain ⟨y, ys, hy, hys, rfl, HO, HB⟩ := hrel
    by_cases hly : y < an.length
    · obtain ⟨g, cp, he, gb, gl, cells, hgc⟩ := Kd.R_form HO.out (by omega)
      injection he with ea en ec
      subst ea
      subst ec
      clear en gl hgc cells
      have GB := Aside0.mk gb
      obtain ⟨hx0, hf0⟩ := Kd.R_celln 0 HO.out (y : Int) (by omega) (by omega)
      have HP := Aside0.mk (Kd.R_putg HO.out (y : Int) 7777)
      rw [Int.toNat_natCast] at hx0 hf0 HP
      clear gb
      go_wp2
      exact ⟨⟨y + 1, ys.set y 7777, by omega, by rw [List.length_set]; exact hys, rfl, ⟨HP.out.1⟩, ⟨below_set HB.out GB.out⟩⟩, by simp [intOf]; omega⟩
    · obtain rfl : y = an.length := by omega
      clear hly
      have hr1 := Kd.R_below HR1.out HB.out
      obtain ⟨-, hl1, hC1⟩ := Kd.R_reads' hr1
      have hB := HB1.out.trans (HB.out.mono HB1.out.size)
      clear hr1
      go_wp2_with fail
      refine (zoetroperef00_EqBytes.calls (l0.length + 1) A1 c1 l0 a0 c0 l0 true _ hC1 hl1 (Kd.C_below HC.out hB) hc (eqb_self l0 hx)).mono ?_
      rintro e w5 ⟨rfl, ⟨nd2, rfl⟩⟩
      go_wp2_with fail
      refine (Wo.works_any _).mono ?_
      rintro e w6 ⟨rfl, hb6⟩
      go_wp2_with fail
      go_ret
      exact ⟨rfl, (pw_below_drewN hB nd2).trans (hb6.mono (pw_below_drewN hB nd2).size)⟩

theorem law_acs (a0 : Option Addr) (len cap : Nat) (zs : List Int) (a1 a2 : Int) (W : World) (hr : IsRow .u8 W a0 len cap zs) (hu : cap * 1 ≤ 140737488351232) (w1 : (Lit.int .i64 a1).wf = true) (w2 : (Lit.int .i64 a2).wf = true) :
    Calls Try.prog 3 #[.slice a0 len cap, .int .i64 a1, .int .i64 a2] W fun e w' => e = .returned (.bool true) ∧ Below W.heap.size W w' := by
  obtain ⟨hl, hlc, hC, hwf⟩ := row_C hr
  have h := acs_walk a0 cap (zs.take len) a1 a2 W (fun x hx => wf_u8 (hwf x hx)) hC (by omega) (by omega) (wf_i64 w1).2 (wf_i64 w2).2
  rw [hl] at h
  exact h
end Go.Proofs.Ytnlhciebkcafeaa.La
