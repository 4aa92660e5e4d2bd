/- The walk of the law CflKnown. -/
import Derived.Test.YtnlhciebkcafeaaKn
import Derived.Deep.RegionWith
import Derived.Deep.DeepCutAuto
namespace Go.Proofs.Ytnlhciebkcafeaa.Lk
open Go.RowKit Go.Proofs.Ytnlhciebkcafeaa.PCflMean Go.Proofs.YtnlhciebkcafeaaW.PrintWords Go.Proofs.YtnlhciebkcafeaaW.PrintLast Go.Proofs.YtnlhciebkcafeaaW.PrintMore Go.Proofs.Ytnlhciebkcafeaa.Cf Go.Proofs.Ytnlhciebkcafeaa.Pd Go.Proofs.Ytnlhciebkcafeaa.Pr Go.Proofs.Ytnlhciebkcafeaa.Ac Go.Proofs.Ytnlhciebkcafeaa.Lit Go.Proofs.Ytnlhciebkcafeaa.Kn

set_option maxRecDepth 100000 in
set_option maxHeartbeats 8000000 in
theorem known_walk (w : World) : Calls Try.prog 7 #[] w fun e w' => e = .returned (.bool true) ∧ Below w.heap.size w w' := by
  have HB0 := Aside0.mk (Below.refl w.heap.size w)
  go_enter Try.func7, Try.ntmps7
  go_wp2_with fail
  refine (PCflAcs.zoetropelaw13_halves.calls 65 9 9 n9 _ n9_eq).mono ?_
  rintro e w1 ⟨v1, rfl, hr, hb⟩
  obtain ⟨A1, c1, rfl, hl1, hC⟩ := Kd.R_reads hr
  clear hr
  have HB2 := Aside0.mk (below_step HB0.out hb)
  clear HB0 hb
  have hq := ac_any A1 c1 n9 4 4 w1 n9_bytes hC hl1 (by decide) (by decide)
  rw [n9_ac.1, n9_ac.2, n9_len] at hq
  try rw [n9_len]
  go_wp2_with fail
  refine hq.mono ?_
  rintro e w3 ⟨v3, rfl, hr, hb⟩
  have HA0 := Aside0.mk hr
  clear hr hq hC
  have HB4 := Aside0.mk (below_step HB2.out hb)
  clear HB2 hb
  have hq := zoetropelaw13_luma.calls 4097 (some ⟨w3.heap.size, 0, none⟩) 1 [255] 32 32 mo (w3.alloc (.cells #[.int .u8 255] 5)) (lit_C (k := .u8) [255] (by decide) (heap_alloc_new _ _)) (Nat.le_refl _) mo_eq
  go_wp2_with fail
  refine hq.mono ?_
  rintro e w5 ⟨v5, rfl, hr, hb0⟩
  have hb := below_step (below_alloc (Below.refl w3.heap.size w3) (.cells #[.int .u8 255] 5)) hb0
  obtain ⟨A5, c5, rfl, hl5, hC⟩ := Kd.R_reads hr
  clear hr hq hb0
  have HB6 := Aside0.mk (below_step HB4.out hb)
  have HA6 := Aside0.mk (Kd.R_below HA0.out hb)
  clear HB4 HA0 hb
  have hq := ac_any A5 c5 mo 32 32 w5 mo_bytes hC hl5 (by decide) (by decide)
  rw [mo_ac.1, mo_ac.2, mo_len] at hq
  try rw [mo_len]
  go_wp2_with fail
  refine hq.mono ?_
  rintro e w7 ⟨v7, rfl, hr, hb⟩
  have HE0 := Aside0.mk hr
  clear hr hq hC
  have HB8 := Aside0.mk (below_step HB6.out hb)
  have HA8 := Aside0.mk (Kd.R_below HA6.out hb)
  clear HB6 HA6 hb
  have hq := zoetropelaw13_luma.calls 129 (some ⟨w7.heap.size, 0, none⟩) 16 six 8 4 obl (w7.alloc (.cells #[.int .u8 1, .int .u8 2, .int .u8 3, .int .u8 4, .int .u8 5, .int .u8 6, .int .u8 7, .int .u8 8, .int .u8 9, .int .u8 10, .int .u8 11, .int .u8 12, .int .u8 13, .int .u8 14, .int .u8 15, .int .u8 16] 5)) (lit_C (k := .u8) six (by decide) (heap_alloc_new _ _)) (Nat.le_refl _) obl_eq
  go_wp2_with fail
  refine hq.mono ?_
  rintro e w9 ⟨v9, rfl, hr, hb0⟩
  have hb := below_step (below_alloc (Below.refl w7.heap.size w7) (.cells #[.int .u8 1, .int .u8 2, .int .u8 3, .int .u8 4, .int .u8 5, .int .u8 6, .int .u8 7, .int .u8 8, .int .u8 9, .int .u8 10, .int .u8 11, .int .u8 12, .int .u8 13, .int .u8 14, .int .u8 15, .int .u8 16] 5)) hb0
  obtain ⟨A9, c9, rfl, hl9, hC⟩ := Kd.R_reads hr
  clear hr hq hb0
  have HB10 := Aside0.mk (below_step HB8.out hb)
  have HA10 := Aside0.mk (Kd.R_below HA8.out hb)
  have HE10 := Aside0.mk (Kd.R_below HE0.out hb)
  clear HB8 HA8 HE0 hb
  have hq := ac_any A9 c9 obl 8 4 w9 obl_bytes hC hl9 (by decide) (by decide)
  rw [obl_ac.1, obl_ac.2, obl_l] at hq
  try rw [obl_l]
  go_wp2_with fail
  refine hq.mono ?_
  rintro e w11 ⟨v11, rfl, hr, hb⟩
  have HF0 := Aside0.mk hr
  clear hr hq hC
  have HB12 := Aside0.mk (below_step HB10.out hb)
  have HA12 := Aside0.mk (Kd.R_below HA10.out hb)
  have HE12 := Aside0.mk (Kd.R_below HE10.out hb)
  clear HB10 HA10 HE10 hb
  obtain ⟨Ba, da, rfl, hla, -⟩ := Kd.R_reads HA12.out
  obtain ⟨Be, de, rfl, hle, -⟩ := Kd.R_reads HE12.out
  obtain ⟨Bf, df, rfl, hlf, -⟩ := Kd.R_reads HF0.out
  rw [z16_len] at hla ⊢
  rw [zk_len] at hle ⊢
  rw [obl_len] at hlf ⊢
  have HREF := Aside0.mk (Below.refl w11.heap.size w11)
  go_wp2_with ((with_reducible refine gate_dst (N := 72) rfl ?_); refine gate_guard (by kernel_rfl) ?_; refine Kd.R_make (Kd.int .i64) w11.heap.size 3 rfl (N := 72) rfl 24 _ _ rfl (16 : Int) rfl rfl Try.underlying24 (.int .i64 0) 8 PCflAcs.info3 rfl (by decide) (by omega) 0 (ok := fun _ => True) (okp := fun _ => False) rfl (fun _ hk => hk.elim) trivial (by omega) (by omega) HREF.out (Nat.le_refl _) ?_; intro v13 w13 ho hb hg hnew; clear hg hnew)
  obtain ⟨A13, c13, rfl, hl13, hC⟩ := Kd.R_reads ho
  have HM0 := Aside0.mk hC
  clear ho hC HREF
  rw [show List.replicate (16 : Int).toNat (0 : Int) = z16 from rfl, z16_len] at hl13 ⊢
  rw [show List.replicate (16 : Int).toNat (0 : Int) = z16 from rfl] at HM0
  have HB14 := Aside0.mk (below_step HB12.out hb)
  have HA14 := Aside0.mk (Kd.R_below HA12.out hb)
  have HE14 := Aside0.mk (Kd.R_below HE12.out hb)
  have HF14 := Aside0.mk (Kd.R_below HF0.out hb)
  clear HB12 HA12 HE12 HF0 hb
  obtain ⟨-, -, hC⟩ := Kd.R_reads' HA14.out
  have hq := PCflAcs.zoetroperef00_EqInts.calls (z16.length + 1) Ba da z16 A13 c13 z16 true w13 hC (by rw [z16_len]; exact hla) HM0.out (by rw [z16_len]; exact hl13) (Cp.eqi_self z16 (by rw [z16_len]; omega))
  rw [z16_len] at hq
  go_wp2_with fail
  refine hq.mono ?_
  rintro e w15 ⟨rfl, ⟨nd, hw⟩⟩
  have hb : Below w13.heap.size w13 w15 := by rw [hw]; exact pw_below_drewN (Below.refl _ _) _
  clear hq hw hC
  have HB16 := Aside0.mk (below_step HB14.out hb)
  have HA16 := Aside0.mk (Kd.R_below HA14.out hb)
  have HE16 := Aside0.mk (Kd.R_below HE14.out hb)
  have HF16 := Aside0.mk (Kd.R_below HF14.out hb)
  have HM16 := Aside0.mk (Kd.C_below HM0.out hb)
  clear HB14 HA14 HE14 HF14 HM0 hb
  clear HM16
  clear HA16
  have HREF := Aside0.mk (Below.refl w15.heap.size w15)
  go_wp2_with ((with_reducible refine gate_dst (N := 77) rfl ?_); refine gate_guard (by kernel_rfl) ?_; refine Kd.R_make (Kd.int .i64) w15.heap.size 3 rfl (N := 77) rfl 24 _ _ rfl (1024 : Int) rfl rfl Try.underlying24 (.int .i64 0) 8 PCflAcs.info3 rfl (by decide) (by omega) 0 (ok := fun _ => True) (okp := fun _ => False) rfl (fun _ hk => hk.elim) trivial (by omega) (by omega) HREF.out (Nat.le_refl _) ?_; intro v17 w17 ho hb hg hnew; clear hg hnew)
  obtain ⟨A17, c17, rfl, hl17, hC⟩ := Kd.R_reads ho
  have HM0 := Aside0.mk hC
  clear ho hC HREF
  rw [show List.replicate (1024 : Int).toNat (0 : Int) = zk from rfl, zk_len] at hl17 ⊢
  rw [show List.replicate (1024 : Int).toNat (0 : Int) = zk from rfl] at HM0
  have HB18 := Aside0.mk (below_step HB16.out hb)
  have HE18 := Aside0.mk (Kd.R_below HE16.out hb)
  have HF18 := Aside0.mk (Kd.R_below HF16.out hb)
  clear HB16 HE16 HF16 hb
  obtain ⟨-, -, hC⟩ := Kd.R_reads' HE18.out
  have hq := PCflAcs.zoetroperef00_EqInts.calls (zk.length + 1) Be de zk A17 c17 zk true w17 hC (by rw [zk_len]; exact hle) HM0.out (by rw [zk_len]; exact hl17) (Cp.eqi_self zk (by rw [zk_len]; omega))
  rw [zk_len] at hq
  go_wp2_with fail
  refine hq.mono ?_
  rintro e w19 ⟨rfl, ⟨nd, hw⟩⟩
  have hb : Below w17.heap.size w17 w19 := by rw [hw]; exact pw_below_drewN (Below.refl _ _) _
  clear hq hw hC
  have HB20 := Aside0.mk (below_step HB18.out hb)
  have HE20 := Aside0.mk (Kd.R_below HE18.out hb)
  have HF20 := Aside0.mk (Kd.R_below HF18.out hb)
  have HM20 := Aside0.mk (Kd.C_below HM0.out hb)
  clear HB18 HE18 HF18 HM0 hb
  clear HM20
  clear HE20
  obtain ⟨-, -, hC⟩ := Kd.R_reads' HF20.out
  obtain ⟨ad, e0, g0⟩ := Kd.at_int hC (0 : Int) (by omega) (by rw [obl_len]; omega)
  obtain ⟨ad7, e7, g7⟩ := Kd.at_int hC (7 : Int) (by omega) (by rw [obl_len]; omega)
  obtain ⟨ad31, e31, g31⟩ := Kd.at_int hC (31 : Int) (by omega) (by rw [obl_len]; omega)
  obtain rfl := e0
  obtain rfl := Option.some.inj e7
  obtain rfl := Option.some.inj e31
  have hsp := World.cell?_spot g0
  obtain ⟨bb, off, spot⟩ := ad
  have hsp' : spot = none := hsp
  subst hsp'
  have k0 : w19.cell? ⟨bb, off, none⟩ = some (.int .i64 (-56)) := g0.trans (congrArg (fun x => some (Value.int .i64 x)) obl_0)
  have ea7 : ({ block := bb, off := off, spot := none } : Addr).add 7 = ⟨bb, off + 7, none⟩ := rfl
  have k7 : w19.cell? ⟨bb, off + 7, none⟩ = some (.int .i64 (56)) := (ea7 ▸ g7).trans (congrArg (fun x => some (Value.int .i64 x)) obl_7)
  clear ea7
  have ea31 : ({ block := bb, off := off, spot := none } : Addr).add 31 = ⟨bb, off + 31, none⟩ := rfl
  have k31 : w19.cell? ⟨bb, off + 31, none⟩ = some (.int .i64 (56)) := (ea31 ▸ g31).trans (congrArg (fun x => some (Value.int .i64 x)) obl_31)
  clear ea31
  clear g0 g7 g31 e7 e31 hC hsp
  clear HF20
  go_wp2_with fail
  clear k0 k7 k31
  have hL : (w19.alloc (.cells #[.int .i64 100, .int .i64 40, .int .i64 (-16), .int .i64 250, .int .i64 2048, .int .i64 16, .int .i64 5, .int .i64 (-2048), .int .i64 16, .int .i64 100, .int .i64 16, .int .i64 2, .int .i64 100, .int .i64 15, .int .i64 2, .int .i64 100, .int .i64 (-16), .int .i64 2, .int .i64 100, .int .i64 (-15), .int .i64 2, .int .i64 0, .int .i64 (-1), .int .i64 16, .int .i64 255, .int .i64 2, .int .i64 16, .int .i64 100, .int .i64 2, .int .i64 16] 43)).heap[w19.heap.size]? = some (.cells exC 43 (0, 0)) := heap_alloc_new _ _
  have hb : Below w19.heap.size w19 (w19.alloc (.cells #[.int .i64 100, .int .i64 40, .int .i64 (-16), .int .i64 250, .int .i64 2048, .int .i64 16, .int .i64 5, .int .i64 (-2048), .int .i64 16, .int .i64 100, .int .i64 16, .int .i64 2, .int .i64 100, .int .i64 15, .int .i64 2, .int .i64 100, .int .i64 (-16), .int .i64 2, .int .i64 100, .int .i64 (-15), .int .i64 2, .int .i64 0, .int .i64 (-1), .int .i64 16, .int .i64 255, .int .i64 2, .int .i64 16, .int .i64 100, .int .i64 2, .int .i64 16] 43)) := below_alloc (Below.refl _ _) _
  obtain ⟨wL, ewL⟩ : ∃ wL, (w19.alloc (.cells #[.int .i64 100, .int .i64 40, .int .i64 (-16), .int .i64 250, .int .i64 2048, .int .i64 16, .int .i64 5, .int .i64 (-2048), .int .i64 16, .int .i64 100, .int .i64 16, .int .i64 2, .int .i64 100, .int .i64 15, .int .i64 2, .int .i64 100, .int .i64 (-16), .int .i64 2, .int .i64 100, .int .i64 (-15), .int .i64 2, .int .i64 0, .int .i64 (-1), .int .i64 16, .int .i64 255, .int .i64 2, .int .i64 16, .int .i64 100, .int .i64 2, .int .i64 16] 43)) = wL := ⟨_, rfl⟩
  rw [ewL] at hL hb ⊢
  clear ewL
  have HL := Aside0.mk hL
  clear hL
  have HB21 := Aside0.mk (below_step HB20.out hb)
  clear HB20 hb
  have HO : Aside0 (Kd.R (Kd.int .u8) 5 wL wL.heap.size (fun _ => True) (.slice none 0 0) (outs.take 0)) := ⟨Kd.R_nil _ _ _ _ _⟩
  have HBB := Aside0.mk (Below.refl wL.heap.size wL)
  go_loopw [8, 115] (fun v8 v115 wr => ∃ k : Nat, k ≤ 10 ∧ v115 = .int .i64 k ∧ Aside0 (Kd.R (Kd.int .u8) 5 wr wL.heap.size (fun _ => True) v8 (outs.take k)) ∧ Aside0 (Below wL.heap.size wL wr)) (fun _ v115 _ => 10 - (intOf v115).toNat)
  case atStart => exact ⟨0, Nat.zero_le _, rfl, HO, HBB⟩
  case round =>
    clear HO HBB
    obtain ⟨k, hk, rfl, HO, HB⟩ := hrel
    by_cases hlt : k < 10
    · obtain ⟨hE, hA, ha, hbn, hcn, hon⟩ := exs_ok k hlt
      obtain ⟨c0, c1', c2⟩ := ex_cells ((HB.out.block _ (blk_lt HL.out)).trans HL.out) k hlt
      have ht := outs_take k hlt
      obtain ⟨⟨xa, xb, xc⟩, ex⟩ : ∃ x, exs.getD k zt = x := ⟨_, rfl⟩
      obtain ⟨ov, eo⟩ : ∃ x, outs.getD k 0 = x := ⟨_, rfl⟩
      rw [ex] at hE hA ha hbn hcn c0 c1' c2
      rw [eo] at hA hon ht
      dsimp only at hE hA ha hbn hcn c0 c1' c2
      have HT := Aside0.mk ht
      have hby : Bytes [xa] := fun x hx => by
        rw [List.mem_singleton] at hx
        rw [hx]; exact ha
      have HE := Aside0.mk hE
      have HA := Aside0.mk hA
      have HY := Aside0.mk hby
      have hmod : xa % 256 = xa := by omega
      clear ex eo ht hby hE hA
      go_wp2_with fail
      have n1 := heap_alloc_new (wr.alloc (.cells #[.int .i64 xa, .int .i64 xb, .int .i64 xc] 43)) (.cells #[.int .u8 xa] 5)
      have n2 := heap_alloc_new ((wr.alloc (.cells #[.int .i64 xa, .int .i64 xb, .int .i64 xc] 43)).alloc (.cells #[.int .u8 xa] 5)) (.cells #[.int .i64 xb] 3)
      rw [World.size_alloc] at n1
      rw [World.size_alloc, World.size_alloc] at n2
      have n1' := old (o := .cells #[.int .i64 xb] 3) n1
      have hq := pr_any (some ⟨wr.heap.size + 1, 0, none⟩) (some ⟨wr.heap.size + 1 + 1, 0, none⟩) 1 1 [xa] [xb] xc _ HY.out (lit_C (k := .u8) [xa] (by simp) n1') (lit_C (k := .i64) [xb] (by simp) n2)
      rw [HE.out, HA.out] at hq
      refine hq.mono ?_
      rintro e w6 ⟨v6, rfl, hr6, hb6⟩
      have hb := below_step (below_alloc (below_alloc (below_alloc (Below.refl wr.heap.size wr) (.cells #[.int .i64 xa, .int .i64 xb, .int .i64 xc] 43)) (.cells #[.int .u8 xa] 5)) (.cells #[.int .i64 xb] 3)) hb6
      have HO6 := Aside0.mk (Kd.R_below HO.out hb)
      have HB6 := Aside0.mk (HB.out.trans (hb.mono HB.out.size))
      obtain ⟨A6, c6, rfl, hl6, hC6⟩ := Kd.R_reads hr6
      obtain ⟨ad6, e6, g6⟩ := Kd.at_int hC6 (0 : Int) (by omega) (by simp)
      obtain rfl := e6
      have hsp := World.cell?_spot g6
      obtain ⟨b6, o6, spot⟩ := ad6
      have hsp' : spot = none := hsp
      subst hsp'
      have k6 : w6.cell? ⟨b6, o6, none⟩ = some (.int .u8 ov) := g6
      clear hq hr6 hb6 hb n1 n2 n1' hC6 g6 hsp c0 c1' c2
      go_wp2_with ((with_reducible refine gate_builtin (b := .append) (xs := #[.tmp 139, .tmp 143]) rfl ?_); at_builtin; refine Kd.R_append (Kd.int .u8) (w0 := wL) wL.heap.size rfl (.tmp 139) (.tmp 143) 22 5 (.int .u8 0) 1 rfl Try.underlying22 PCflAcs.info5 rfl (by decide) (by omega) u8 (outs.take k) ov [.int .u8 ov] (fun _ => True) (fun _ => False) rfl rfl rfl (fun _ hk => hk.elim) (fun _ _ => trivial) HO6.out HB6.out (below_size HB6.out) (by rw [List.length_take]; omega) ?_; intro v144 w7 ho hb hg hat)
      exact ⟨⟨k + 1, by omega, rfl, ⟨by rw [← HT.out]; exact ho⟩, ⟨hb⟩⟩, by simp [intOf]; omega⟩
    · obtain rfl : k = 10 := by omega
      have hb := HB.out
      have HB22 := Aside0.mk (below_step HB21.out hb)
      clear HB21 hb
      obtain ⟨A8, c8, rfl, hl8, hC8⟩ := Kd.R_reads HO.out
      rw [show outs.take 10 = outs from rfl] at hl8 hC8 ⊢
      go_wp2_with fail
      refine (Wo.eqb_lit 11 A8 c8 outs 10 wr.heap.size _ wr rfl rfl rfl (by decide) hC8 hl8 (by decide +kernel)).mono ?_
      rintro e wq ⟨rfl, ⟨nd, hw⟩⟩
      have hb : Below wr.heap.size wr wq := by rw [hw]; exact pw_below_drewN (below_alloc (Below.refl _ _) _) _
      clear hw hC8 hl8 HO HB HL
      have HB23 := Aside0.mk (below_step HB22.out hb)
      clear HB22 hb
      have HREF := Aside0.mk (Below.refl wq.heap.size wq)
      go_wp2_with ((with_reducible refine gate_dst (N := 150) rfl ?_); refine Kd.R_make (Kd.int .u8) wq.heap.size 5 rfl (N := 150) rfl 22 _ _ rfl (96 : Int) rfl rfl Try.underlying22 (.int .u8 0) 1 PCflAcs.info5 rfl (by decide) (by omega) 0 (ok := fun _ => True) (okp := fun _ => False) rfl (fun _ hk => hk.elim) trivial (by omega) (by omega) HREF.out (Nat.le_refl _) ?_; intro v24 w24 ho hb hg hnew; clear hg hnew)
      obtain ⟨A24, c24, rfl, hl24, hC⟩ := Kd.R_reads ho
      have HM0 := Aside0.mk hC
      clear ho hC HREF
      rw [List.length_replicate, show (96 : Int).toNat = 96 from rfl] at hl24 ⊢
      have HB25 := Aside0.mk (below_step HB23.out hb)
      clear HB23 hb
      go_wp2_with fail
      refine (ac_no A24 96 c24 (6) (4) _ (by decide) (by decide) (by decide)).mono ?_
      rintro e w26 ⟨rfl, hb⟩
      have HB27 := Aside0.mk (below_step HB25.out hb)
      have HM27 := Aside0.mk (Kd.C_below HM0.out hb)
      clear HB25 HM0 hb
      clear HM27
      go_wp2_with fail
      refine (pr_unlike (some ⟨w26.heap.size, 0, none⟩) (some ⟨w26.heap.size + 1, 0, none⟩) 1 1 2 2 1 _ (by decide) (by decide)).mono ?_
      rintro e w28 ⟨rfl, hb0⟩
      have hb := below_step (below_alloc (below_alloc (Below.refl w26.heap.size w26) (.cells #[.int .u8 1] 5)) (.cells #[.int .i64 1, .int .i64 1] 3)) hb0
      clear hb0
      have HB29 := Aside0.mk (below_step HB27.out hb)
      clear HB27 hb
      have HREF := Aside0.mk (Below.refl w28.heap.size w28)
      go_wp2_with ((with_reducible refine gate_dst (N := 167) rfl ?_); refine Kd.R_make (Kd.int .u8) w28.heap.size 5 rfl (N := 167) rfl 22 _ _ rfl (63 : Int) rfl rfl Try.underlying22 (.int .u8 0) 1 PCflAcs.info5 rfl (by decide) (by omega) 0 (ok := fun _ => True) (okp := fun _ => False) rfl (fun _ hk => hk.elim) trivial (by omega) (by omega) HREF.out (Nat.le_refl _) ?_; intro v30 w30 ho hb hg hnew; clear hg hnew)
      obtain ⟨A30, c30, rfl, hl30, hC⟩ := Kd.R_reads ho
      have HM0 := Aside0.mk hC
      clear ho hC HREF
      rw [List.length_replicate, show (63 : Int).toNat = 63 from rfl] at hl30 ⊢
      have HB31 := Aside0.mk (below_step HB29.out hb)
      clear HB29 hb
      go_wp2_with fail
      refine (ac_no A30 63 c30 (4) (4) _ (by decide) (by decide) (by decide)).mono ?_
      rintro e w32 ⟨rfl, hb⟩
      have HB33 := Aside0.mk (below_step HB31.out hb)
      have HM33 := Aside0.mk (Kd.C_below HM0.out hb)
      clear HB31 HM0 hb
      clear HM33
      have HREF := Aside0.mk (Below.refl w32.heap.size w32)
      go_wp2_with ((with_reducible refine gate_dst (N := 172) rfl ?_); refine Kd.R_make (Kd.int .u8) w32.heap.size 5 rfl (N := 172) rfl 22 _ _ rfl (80 : Int) rfl rfl Try.underlying22 (.int .u8 0) 1 PCflAcs.info5 rfl (by decide) (by omega) 0 (ok := fun _ => True) (okp := fun _ => False) rfl (fun _ hk => hk.elim) trivial (by omega) (by omega) HREF.out (Nat.le_refl _) ?_; intro v34 w34 ho hb hg hnew; clear hg hnew)
      obtain ⟨A34, c34, rfl, hl34, hC⟩ := Kd.R_reads ho
      have HM0 := Aside0.mk hC
      clear ho hC HREF
      rw [List.length_replicate, show (80 : Int).toNat = 80 from rfl] at hl34 ⊢
      have HB35 := Aside0.mk (below_step HB33.out hb)
      clear HB33 hb
      go_wp2_with fail
      refine (ac_no A34 80 c34 (5) (4) _ (by decide) (by decide) (by decide)).mono ?_
      rintro e w36 ⟨rfl, hb⟩
      have HB37 := Aside0.mk (below_step HB35.out hb)
      have HM37 := Aside0.mk (Kd.C_below HM0.out hb)
      clear HB35 HM0 hb
      clear HM37
      have HREF := Aside0.mk (Below.refl w36.heap.size w36)
      go_wp2_with ((with_reducible refine gate_dst (N := 177) rfl ?_); refine Kd.R_make (Kd.int .u8) w36.heap.size 5 rfl (N := 177) rfl 22 _ _ rfl (576 : Int) rfl rfl Try.underlying22 (.int .u8 0) 1 PCflAcs.info5 rfl (by decide) (by omega) 0 (ok := fun _ => True) (okp := fun _ => False) rfl (fun _ hk => hk.elim) trivial (by omega) (by omega) HREF.out (Nat.le_refl _) ?_; intro v38 w38 ho hb hg hnew; clear hg hnew)
      obtain ⟨A38, c38, rfl, hl38, hC⟩ := Kd.R_reads ho
      have HM0 := Aside0.mk hC
      clear ho hC HREF
      rw [List.length_replicate, show (576 : Int).toNat = 576 from rfl] at hl38 ⊢
      have HB39 := Aside0.mk (below_step HB37.out hb)
      clear HB37 hb
      go_wp2_with fail
      refine (ac_no A38 576 c38 (36) (4) _ (by decide) (by decide) (by decide)).mono ?_
      rintro e w40 ⟨rfl, hb⟩
      have HB41 := Aside0.mk (below_step HB39.out hb)
      have HM41 := Aside0.mk (Kd.C_below HM0.out hb)
      clear HB39 HM0 hb
      clear HM41
      go_wp2_with fail
      refine (ac_no none 0 0 (0) (0) _ (by decide) (by decide) (by decide)).mono ?_
      rintro e w42 ⟨rfl, hb⟩
      have HB43 := Aside0.mk (below_step HB41.out hb)
      clear HB41 hb
      have HREF := Aside0.mk (Below.refl w42.heap.size w42)
      go_wp2_with ((with_reducible refine gate_dst (N := 186) rfl ?_); refine Kd.R_make (Kd.int .u8) w42.heap.size 5 rfl (N := 186) rfl 22 _ _ rfl (64 : Int) rfl rfl Try.underlying22 (.int .u8 0) 1 PCflAcs.info5 rfl (by decide) (by omega) 0 (ok := fun _ => True) (okp := fun _ => False) rfl (fun _ hk => hk.elim) trivial (by omega) (by omega) HREF.out (Nat.le_refl _) ?_; intro v44 w44 ho hb hg hnew; clear hg hnew)
      obtain ⟨A44, c44, rfl, hl44, hC⟩ := Kd.R_reads ho
      have HM0 := Aside0.mk hC
      clear ho hC HREF
      rw [List.length_replicate, show (64 : Int).toNat = 64 from rfl] at hl44 ⊢
      have HB45 := Aside0.mk (below_step HB43.out hb)
      clear HB43 hb
      go_wp2_with fail
      refine (ac_no A44 64 c44 (-4) (-4) _ (by decide) (by decide) (by decide)).mono ?_
      rintro e w46 ⟨rfl, hb⟩
      have HB47 := Aside0.mk (below_step HB45.out hb)
      have HM47 := Aside0.mk (Kd.C_below HM0.out hb)
      clear HB45 HM0 hb
      clear HM47
      go_wp2_with fail
      refine (pr_unlike (some ⟨w46.heap.size, 0, none⟩) (some ⟨w46.heap.size + 1, 0, none⟩) 2 2 1 1 1 _ (by decide) (by decide)).mono ?_
      rintro e w48 ⟨rfl, hb0⟩
      have hb := below_step (below_alloc (below_alloc (Below.refl w46.heap.size w46) (.cells #[.int .u8 1, .int .u8 2] 5)) (.cells #[.int .i64 1] 3)) hb0
      clear hb0
      have HB49 := Aside0.mk (below_step HB47.out hb)
      clear HB47 hb
      go_wp2_with fail
      have n1 := old (o := (.cells #[.int .i64 2049] 3)) (heap_alloc_new w48 (.cells #[.int .u8 1] 5))
      have n2 := heap_alloc_new (w48.alloc (.cells #[.int .u8 1] 5)) (.cells #[.int .i64 2049] 3)
      rw [World.size_alloc] at n2
      have hq := pr_any (some ⟨w48.heap.size, 0, none⟩) (some ⟨w48.heap.size + 1, 0, none⟩) 1 1 [1] [2049] (1) _ one_bytes (lit_C (k := .u8) [1] (by decide) n1) (lit_C (k := .i64) [2049] (by decide) n2)
      rw [bad1.1, bad1.2] at hq
      refine hq.mono ?_
      rintro e w50 ⟨v50, rfl, -, hb0⟩
      have hb := below_step (below_alloc (below_alloc (Below.refl w48.heap.size w48) (.cells #[.int .u8 1] 5)) (.cells #[.int .i64 2049] 3)) hb0
      clear hb0 hq n1 n2
      have HB51 := Aside0.mk (below_step HB49.out hb)
      clear HB49 hb
      go_wp2_with fail
      have n1 := old (o := (.cells #[.int .i64 (-2049)] 3)) (heap_alloc_new w50 (.cells #[.int .u8 1] 5))
      have n2 := heap_alloc_new (w50.alloc (.cells #[.int .u8 1] 5)) (.cells #[.int .i64 (-2049)] 3)
      rw [World.size_alloc] at n2
      have hq := pr_any (some ⟨w50.heap.size, 0, none⟩) (some ⟨w50.heap.size + 1, 0, none⟩) 1 1 [1] [-2049] (1) _ one_bytes (lit_C (k := .u8) [1] (by decide) n1) (lit_C (k := .i64) [-2049] (by decide) n2)
      rw [bad2.1, bad2.2] at hq
      refine hq.mono ?_
      rintro e w52 ⟨v52, rfl, -, hb0⟩
      have hb := below_step (below_alloc (below_alloc (Below.refl w50.heap.size w50) (.cells #[.int .u8 1] 5)) (.cells #[.int .i64 (-2049)] 3)) hb0
      clear hb0 hq n1 n2
      have HB53 := Aside0.mk (below_step HB51.out hb)
      clear HB51 hb
      go_wp2_with fail
      have n1 := old (o := (.cells #[.int .i64 1] 3)) (heap_alloc_new w52 (.cells #[.int .u8 1] 5))
      have n2 := heap_alloc_new (w52.alloc (.cells #[.int .u8 1] 5)) (.cells #[.int .i64 1] 3)
      rw [World.size_alloc] at n2
      have hq := pr_any (some ⟨w52.heap.size, 0, none⟩) (some ⟨w52.heap.size + 1, 0, none⟩) 1 1 [1] [1] (17) _ one_bytes (lit_C (k := .u8) [1] (by decide) n1) (lit_C (k := .i64) [1] (by decide) n2)
      rw [bad3.1, bad3.2] at hq
      refine hq.mono ?_
      rintro e w54 ⟨v54, rfl, -, hb0⟩
      have hb := below_step (below_alloc (below_alloc (Below.refl w52.heap.size w52) (.cells #[.int .u8 1] 5)) (.cells #[.int .i64 1] 3)) hb0
      clear hb0 hq n1 n2
      have HB55 := Aside0.mk (below_step HB53.out hb)
      clear HB53 hb
      go_wp2_with fail
      have n1 := old (o := (.cells #[.int .i64 1] 3)) (heap_alloc_new w54 (.cells #[.int .u8 1] 5))
      have n2 := heap_alloc_new (w54.alloc (.cells #[.int .u8 1] 5)) (.cells #[.int .i64 1] 3)
      rw [World.size_alloc] at n2
      have hq := pr_any (some ⟨w54.heap.size, 0, none⟩) (some ⟨w54.heap.size + 1, 0, none⟩) 1 1 [1] [1] (-17) _ one_bytes (lit_C (k := .u8) [1] (by decide) n1) (lit_C (k := .i64) [1] (by decide) n2)
      rw [bad4.1, bad4.2] at hq
      refine hq.mono ?_
      rintro e w56 ⟨v56, rfl, -, hb0⟩
      have hb := below_step (below_alloc (below_alloc (Below.refl w54.heap.size w54) (.cells #[.int .u8 1] 5)) (.cells #[.int .i64 1] 3)) hb0
      clear hb0 hq n1 n2
      have HB57 := Aside0.mk (below_step HB55.out hb)
      clear HB55 hb
      go_upto_region 29 with fail
      go_cut [38, 39] (fun _ s39 wx => s39 = .int .i64 2 ∧ Aside0 (Below w56.heap.size w56 wx))
      case first =>
        obtain ⟨Z5, hZ5⟩ := mk5
        obtain ⟨Z3, hZ3⟩ := mk3
        go_region_with ((go_at_call 15; refine (pr_long _ _ 1025 _ 1025 _ 0 _ (by omega)).mono ?_; rintro e w29 ⟨rfl, hb⟩))
        all_goals (go_wp2_with fail; go_meet; exact ⟨rfl, ⟨below_step (by repeat (first | exact Below.refl _ _ | apply below_alloc | apply below_drew1 | apply pw_below_drewN)) hb⟩⟩)
      case rest =>
        obtain ⟨rfl, HBC⟩ := hcut
        have hb := HBC.out
        clear HBC
        have HB58 := Aside0.mk (below_step HB57.out hb)
        clear HB57 hb
        have hq := pr_any none none 0 0 [] [] 0 wc (fun _ h => absurd h (List.not_mem_nil)) (Kd.C_nil _ _) (Kd.C_nil _ _)
        rw [good0.1, good0.2] at hq
        go_wp2_with fail
        refine hq.mono ?_
        rintro e w59 ⟨v59, rfl, hr, hb⟩
        obtain ⟨A59, c59, rfl, -, -⟩ := Kd.R_reads hr
        clear hr hq
        have HB60 := Aside0.mk (below_step HB58.out hb)
        clear HB58 hb
        go_wp2_with fail
        refine (Wo.works_any _).mono ?_
        rintro e w61 ⟨rfl, hb⟩
        have HB62 := Aside0.mk (below_step HB60.out hb)
        clear HB60 hb
        go_wp2_with fail
        go_ret
        exact ⟨rfl, HB62.out⟩
theorem law_known (w : World) : Calls Try.prog 7 #[] w fun e w' => e = .returned (.bool true) ∧ Below w.heap.size w w' := known_walk w
end Go.Proofs.Ytnlhciebkcafeaa.Lk
