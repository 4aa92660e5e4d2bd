/- The walk of the law QuantKnown: the chapter's examples, and both ends. No conditions. -/
import Derived.Test.YtgflgeblimiocaaKp
import Derived.Deep.RegionHeld3
import Derived.Deep.DeepCutAuto
import Derived.Deep.WholeRow
namespace Go.Proofs.Ytgflgeblimiocaa.Lk
open Go.RowKit Go.Proofs.Ytgflgeblimiocaa.PQuantSteps Go.Proofs.YtgflgeblimiocaaW.PrintWords Go.Proofs.YtgflgeblimiocaaW.PrintLast Go.Proofs.YtgflgeblimiocaaW.PrintMore Go.Proofs.Ytgflgeblimiocaa.Q Go.Proofs.Ytgflgeblimiocaa.St Go.Proofs.Ytgflgeblimiocaa.Low Go.Proofs.Ytgflgeblimiocaa.Kp

theorem works_low (w : World) : Calls Try.prog 13 #[] w fun e w' => e = .returned (.bool true) ∧ Below w.heap.size w w' := (works_quiet w).mono fun _ _ ⟨he, hd⟩ => ⟨he, hd.below⟩
set_option maxRecDepth 100000 in
set_option maxHeartbeats 8000000 in
theorem known_walk (w : World) : Calls Try.prog 8 #[] w fun e w' => e = .returned (.bool true) ∧ Below w.heap.size w w' := by
  have HB0 := Aside0.mk (Below.refl w.heap.size w)
  go_enter Try.func8, Try.ntmps8
  go_wp2_with fail
  have hL : (w.alloc (.cells exC1 38)).heap[w.heap.size]? = some (.cells exC1 38 (0, 0)) := heap_alloc_new _ _
  have hb : Below w.heap.size w (w.alloc (.cells exC1 38)) := below_alloc (Below.refl _ _) _
  obtain ⟨wL1, ewL⟩ : ∃ wL, (w.alloc (.cells exC1 38)) = wL := ⟨_, rfl⟩
  rw [show (w.alloc (.cells #[.int .i64 0, .int .i64 0, .int .i64 255, .int .i64 31, .int .i64 100, .int .i64 (-31), .int .i64 0, .int .i64 (-31), .int .i64 256, .int .i64 0, .int .i64 0, .int .i64 32, .int .i64 (-1), .int .i64 0, .int .i64 0, .int .i64 (-32)] 38)) = wL1 from ewL]
  rw [ewL] at hL hb
  clear ewL
  have HL := Aside0.mk hL
  clear hL
  have HB1 := Aside0.mk (below_step HB0.out hb)
  clear HB0 hb
  have HO : Aside0 (Kd.R (Kd.int .i64) 3 wL1 wL1.heap.size (fun _ => True) (.slice none 0 0) (outs1.take (3 * 0))) := ⟨Kd.R_nil _ _ _ _ _⟩
  have HBB := Aside0.mk (Below.refl wL1.heap.size wL1)
  go_loopw [1, 38] (fun v1 vc wr => ∃ k : Nat, k ≤ 8 ∧ vc = .int .i64 k ∧ Aside0 (Kd.R (Kd.int .i64) 3 wr wL1.heap.size (fun _ => True) v1 (outs1.take (3 * k))) ∧ Aside0 (Below wL1.heap.size wL1 wr)) (fun _ vc _ => 8 - (intOf vc).toNat)
  case atStart => exact ⟨0, Nat.zero_le _, rfl, HO, HBB⟩
  case round =>
    clear HO HBB
    obtain ⟨k, hk, rfl, HO, HB⟩ := hrel
    by_cases hlt : k < 8
    · have hf := exs1_ok k hlt
      obtain ⟨c0, c1⟩ := ex1_cells ((HB.out.block _ (blk_lt HL.out)).trans HL.out) k hlt
      have ht := outs1_take k hlt
      obtain ⟨⟨xa, xb, xc⟩, ex⟩ : ∃ x, exs1.getD k zt = x := ⟨_, rfl⟩
      rw [ex] at hf c0 c1
      obtain ⟨o0, eo⟩ : ∃ x, outs1.getD (3 * k) 0 = x := ⟨_, rfl⟩
      rw [eo] at hf ht
      clear eo
      obtain ⟨o1, eo⟩ : ∃ x, outs1.getD (3 * k + 1) 0 = x := ⟨_, rfl⟩
      rw [eo] at hf ht
      clear eo
      obtain ⟨o2, eo⟩ : ∃ x, outs1.getD (3 * k + 2) 0 = x := ⟨_, rfl⟩
      rw [eo] at hf ht
      clear eo
      dsimp only at hf c0 c1
      clear ex
      have HT := Aside0.mk ht
      clear ht
      have h1 := fun W => Dc_any xa xb W
      have h2 := fun W => Ac_any xa xb W
      rw [hf.1, hf.2.2] at h1
      rw [hf.2.1, hf.2.2] at h2
      have H1 := Aside0.mk h1
      have H2 := Aside0.mk h2
      clear h1 h2 hf
      go_wp2_with fail
      refine (H1.out _).mono ?_
      rintro e w5 ⟨rfl, hd5⟩
      have hbk := (hd5.below.block wr.heap.size (by rw [al_size]; omega)).trans (heap_alloc_new wr (.cells #[.int .i64 xa, .int .i64 xb] 38))
      have hb5 := below_step (below_alloc (Below.refl wr.heap.size wr) (.cells #[.int .i64 xa, .int .i64 xb] 38)) hd5.below
      have d0 : w5.cell? ⟨wr.heap.size, 0, none⟩ = some (.int .i64 xa) := blk_cell hbk 0
      have d1 : w5.cell? ⟨wr.heap.size, 1, none⟩ = some (.int .i64 xb) := blk_cell hbk 1
      have HB5 := Aside0.mk hb5
      clear hd5 hbk hb5 c0 c1
      go_wp2_with fail
      refine (H2.out _).mono ?_
      rintro e w6 ⟨rfl, hd6⟩
      have hb6 := below_step HB5.out hd6.below
      clear hd6 d0 d1 HB5
      have hb7 := below_step hb6 (below_alloc (Below.refl w6.heap.size w6) (.cells #[.int .i64 o0, .int .i64 o1, .int .i64 o2] 3))
      have HO7 := Aside0.mk (Kd.R_below HO.out hb7)
      have HB7 := Aside0.mk (HB.out.trans (hb7.mono HB.out.size))
      have HC7 := Aside0.mk (lit_C (k := .i64) [o0, o1, o2] (by simp) (heap_alloc_new w6 (.cells #[.int .i64 o0, .int .i64 o1, .int .i64 o2] 3)))
      clear hb6 hb7
      have km : ∀ {W : World} {B : Nat} {x : Int} {cs : List Value} {ok : Nat → Prop}, (Kd.int .i64).K W x cs → (Kd.int .i64).M W B ok x cs := fun h => h
      have KM := Aside0.mk @km
      clear km
      go_wp2_with ((with_reducible refine gate_builtin (b := .append) (xs := #[.tmp 61, .tmp 65]) rfl ?_); at_builtin; refine Kd.R_append_rows (Kd.int .i64) (w0 := wL1) wL1.heap.size rfl (.tmp 61) (.tmp 65) 22 3 (.int .i64 0) 8 rfl Try.underlying22 info3 rfl (by decide) (by omega) u1 (outs1.take (3 * k)) [o0, o1, o2] (some ⟨w6.heap.size, 0, none⟩) 3 3 (fun _ => True) (fun _ => False) rfl rfl HO7.out HC7.out (fun _ _ h => KM.out h) (fun _ hk => hk.elim) (fun _ _ => trivial) HB7.out (below_size HB7.out) (by rw [List.length_take]; omega) ?_; intro vq wq ho hb hg hat)
      exact ⟨⟨k + 1, by omega, rfl, ⟨by rw [← HT.out]; exact ho⟩, ⟨hb⟩⟩, by simp [intOf]; omega⟩
    · obtain rfl : k = 8 := by omega
      have hb := HB.out
      clear HB
      have HB2 := Aside0.mk (below_step HB1.out hb)
      clear HB1 hb
      obtain ⟨A1, c1, e1, hl1, hC1⟩ := Kd.R_reads HO.out
      rw [show outs1.take (3 * 8) = outs1 from rfl] at e1 hl1 hC1
      rw [outs1_len] at e1
      subst e1
      clear HO HL
      go_wp2_with fail
      refine (eqi_lit 25 A1 c1 outs1 24 _ _ _ rfl rfl rfl (by decide) hC1 hl1 outs1_eqi).mono ?_
      rintro e wq1 ⟨rfl, ⟨nd, hw⟩⟩
      have hb : Below wr.heap.size wr wq1 := by rw [hw]; exact pw_below_drewN (below_alloc (Below.refl _ _) _) _
      clear hw hC1 hl1
      have HB3 := Aside0.mk (below_step HB2.out hb)
      clear HB2 hb
      go_wp2_with fail
      have hL : (wq1.alloc (.cells exC2 30)).heap[wq1.heap.size]? = some (.cells exC2 30 (0, 0)) := heap_alloc_new _ _
      have hb : Below wq1.heap.size wq1 (wq1.alloc (.cells exC2 30)) := below_alloc (Below.refl _ _) _
      obtain ⟨wL2, ewL⟩ : ∃ wL, (wq1.alloc (.cells exC2 30)) = wL := ⟨_, rfl⟩
      rw [show (wq1.alloc (.cells #[.int .i64 100, .int .i64 7, .int .i64 4, .int .i64 (-100), .int .i64 7, .int .i64 8, .int .i64 3, .int .i64 7, .int .i64 16, .int .i64 100, .int .i64 7, .int .i64 32, .int .i64 100, .int .i64 7, .int .i64 64, .int .i64 1048576, .int .i64 1, .int .i64 64, .int .i64 (-1048576), .int .i64 1, .int .i64 32, .int .i64 1048577, .int .i64 1, .int .i64 4, .int .i64 0, .int .i64 0, .int .i64 4, .int .i64 0, .int .i64 32769, .int .i64 4, .int .i64 0, .int .i64 1, .int .i64 5, .int .i64 0, .int .i64 1, .int .i64 128, .int .i64 (-1048577), .int .i64 1, .int .i64 4, .int .i64 1048576, .int .i64 32768, .int .i64 4] 30)) = wL2 from ewL]
      rw [ewL] at hL hb
      clear ewL
      have HL := Aside0.mk hL
      clear hL
      have HB4 := Aside0.mk (below_step HB3.out hb)
      clear HB3 hb
      have HO : Aside0 (Kd.R (Kd.int .i64) 3 wL2 wL2.heap.size (fun _ => True) (.slice none 0 0) (outs2.take (2 * 0))) := ⟨Kd.R_nil _ _ _ _ _⟩
      have HBB := Aside0.mk (Below.refl wL2.heap.size wL2)
      go_loopw [1, 87] (fun v1 vc wr => ∃ k : Nat, k ≤ 14 ∧ vc = .int .i64 k ∧ Aside0 (Kd.R (Kd.int .i64) 3 wr wL2.heap.size (fun _ => True) v1 (outs2.take (2 * k))) ∧ Aside0 (Below wL2.heap.size wL2 wr)) (fun _ vc _ => 14 - (intOf vc).toNat)
      case atStart => exact ⟨0, Nat.zero_le _, rfl, HO, HBB⟩
      case round =>
    clear HO HBB
    obtain ⟨k, hk, rfl, HO, HB⟩ := hrel
    by_cases hlt : k < 14
    · have hf := exs2_ok k hlt
      obtain ⟨c0, c1, c2⟩ := ex2_cells ((HB.out.block _ (blk_lt HL.out)).trans HL.out) k hlt
      have ht := outs2_take k hlt
      obtain ⟨⟨xa, xb, xc⟩, ex⟩ : ∃ x, exs2.getD k zt = x := ⟨_, rfl⟩
      rw [ex] at hf c0 c1 c2
      obtain ⟨o0, eo⟩ : ∃ x, outs2.getD (2 * k) 0 = x := ⟨_, rfl⟩
      rw [eo] at hf ht
      clear eo
      obtain ⟨o1, eo⟩ : ∃ x, outs2.getD (2 * k + 1) 0 = x := ⟨_, rfl⟩
      rw [eo] at hf ht
      clear eo
      dsimp only at hf c0 c1 c2
      clear ex
      have HT := Aside0.mk ht
      clear ht
      have h1 := fun W => PQuantKnown.quant_Level.calls 9 xa xb xc o0 o1 W hf
      have H1 := Aside0.mk h1
      clear h1 hf
      go_wp2_with fail
      refine (H1.out _).mono ?_
      rintro e w6 ⟨rfl, hb6'⟩
      have hb6 := below_step (below_alloc (Below.refl wr.heap.size wr) (.cells #[.int .i64 xa, .int .i64 xb, .int .i64 xc] 30)) hb6'
      clear hb6' c0 c1 c2
      have hb7 := below_step hb6 (below_alloc (Below.refl w6.heap.size w6) (.cells #[.int .i64 o0, .int .i64 o1] 3))
      have HO7 := Aside0.mk (Kd.R_below HO.out hb7)
      have HB7 := Aside0.mk (HB.out.trans (hb7.mono HB.out.size))
      have HC7 := Aside0.mk (lit_C (k := .i64) [o0, o1] (by simp) (heap_alloc_new w6 (.cells #[.int .i64 o0, .int .i64 o1] 3)))
      clear hb6 hb7
      have km : ∀ {W : World} {B : Nat} {x : Int} {cs : List Value} {ok : Nat → Prop}, (Kd.int .i64).K W x cs → (Kd.int .i64).M W B ok x cs := fun h => h
      have KM := Aside0.mk @km
      clear km
      go_wp2_with ((with_reducible refine gate_builtin (b := .append) (xs := #[.tmp 101, .tmp 104]) rfl ?_); at_builtin; refine Kd.R_append_rows (Kd.int .i64) (w0 := wL2) wL2.heap.size rfl (.tmp 101) (.tmp 104) 22 3 (.int .i64 0) 8 rfl Try.underlying22 info3 rfl (by decide) (by omega) u1 (outs2.take (2 * k)) [o0, o1] (some ⟨w6.heap.size, 0, none⟩) 2 2 (fun _ => True) (fun _ => False) rfl rfl HO7.out HC7.out (fun _ _ h => KM.out h) (fun _ hk => hk.elim) (fun _ _ => trivial) HB7.out (below_size HB7.out) (by rw [List.length_take]; omega) ?_; intro vq wq ho hb hg hat)
      exact ⟨⟨k + 1, by omega, rfl, ⟨by rw [← HT.out]; exact ho⟩, ⟨hb⟩⟩, by simp [intOf]; omega⟩
    · obtain rfl : k = 14 := by omega
      have hb := HB.out
      clear HB
      have HB5 := Aside0.mk (below_step HB4.out hb)
      clear HB4 hb
      obtain ⟨A2, c2, e2, hl2, hC2⟩ := Kd.R_reads HO.out
      rw [show outs2.take (2 * 14) = outs2 from rfl] at e2 hl2 hC2
      rw [outs2_len] at e2
      subst e2
      clear HO HL
      go_wp2_with fail
      refine (eqi_lit 29 A2 c2 outs2 28 _ _ _ rfl rfl rfl (by decide) hC2 hl2 outs2_eqi).mono ?_
      rintro e wq2 ⟨rfl, ⟨nd, hw⟩⟩
      have hb : Below wr.heap.size wr wq2 := by rw [hw]; exact pw_below_drewN (below_alloc (Below.refl _ _) _) _
      clear hw hC2 hl2
      have HB6 := Aside0.mk (below_step HB5.out hb)
      clear HB5 hb
      go_wp2_with fail
      have hL : (wq2.alloc (.cells exC3 30)).heap[wq2.heap.size]? = some (.cells exC3 30 (0, 0)) := heap_alloc_new _ _
      have hb : Below wq2.heap.size wq2 (wq2.alloc (.cells exC3 30)) := below_alloc (Below.refl _ _) _
      obtain ⟨wL3, ewL⟩ : ∃ wL, (wq2.alloc (.cells exC3 30)) = wL := ⟨_, rfl⟩
      rw [show (wq2.alloc (.cells #[.int .i64 14, .int .i64 7, .int .i64 4, .int .i64 (-14), .int .i64 7, .int .i64 8, .int .i64 29, .int .i64 7, .int .i64 32, .int .i64 57, .int .i64 7, .int .i64 64, .int .i64 1048576, .int .i64 16, .int .i64 4, .int .i64 40000, .int .i64 1, .int .i64 4, .int .i64 (-40000), .int .i64 1, .int .i64 16, .int .i64 1048576, .int .i64 32768, .int .i64 64, .int .i64 1048577, .int .i64 1, .int .i64 4, .int .i64 0, .int .i64 1, .int .i64 5, .int .i64 16777215, .int .i64 1, .int .i64 4, .int .i64 (-65535), .int .i64 1, .int .i64 32, .int .i64 1048576, .int .i64 15, .int .i64 64, .int .i64 1048576, .int .i64 16, .int .i64 64, .int .i64 (-1048576), .int .i64 16, .int .i64 32] 30)) = wL3 from ewL]
      rw [ewL] at hL hb
      clear ewL
      have HL := Aside0.mk hL
      clear hL
      have HB7 := Aside0.mk (below_step HB6.out hb)
      clear HB6 hb
      have HO : Aside0 (Kd.R (Kd.int .i64) 3 wL3 wL3.heap.size (fun _ => True) (.slice none 0 0) (outs3.take (2 * 0))) := ⟨Kd.R_nil _ _ _ _ _⟩
      have HBB := Aside0.mk (Below.refl wL3.heap.size wL3)
      go_loopw [1, 127] (fun v1 vc wr => ∃ k : Nat, k ≤ 15 ∧ vc = .int .i64 k ∧ Aside0 (Kd.R (Kd.int .i64) 3 wr wL3.heap.size (fun _ => True) v1 (outs3.take (2 * k))) ∧ Aside0 (Below wL3.heap.size wL3 wr)) (fun _ vc _ => 15 - (intOf vc).toNat)
      case atStart => exact ⟨0, Nat.zero_le _, rfl, HO, HBB⟩
      case round =>
    clear HO HBB
    obtain ⟨k, hk, rfl, HO, HB⟩ := hrel
    by_cases hlt : k < 15
    · have hf := exs3_ok k hlt
      obtain ⟨c0, c1, c2⟩ := ex3_cells ((HB.out.block _ (blk_lt HL.out)).trans HL.out) k hlt
      have ht := outs3_take k hlt
      obtain ⟨⟨xa, xb, xc⟩, ex⟩ : ∃ x, exs3.getD k zt = x := ⟨_, rfl⟩
      rw [ex] at hf c0 c1 c2
      obtain ⟨o0, eo⟩ : ∃ x, outs3.getD (2 * k) 0 = x := ⟨_, rfl⟩
      rw [eo] at hf ht
      clear eo
      obtain ⟨o1, eo⟩ : ∃ x, outs3.getD (2 * k + 1) 0 = x := ⟨_, rfl⟩
      rw [eo] at hf ht
      clear eo
      dsimp only at hf c0 c1 c2
      clear ex
      have HT := Aside0.mk ht
      clear ht
      have h1 := fun W => PQuantKnown.quant_Value.calls 9 xa xb xc o0 o1 W hf
      have H1 := Aside0.mk h1
      clear h1 hf
      go_wp2_with fail
      refine (H1.out _).mono ?_
      rintro e w6 ⟨rfl, hb6'⟩
      have hb6 := below_step (below_alloc (Below.refl wr.heap.size wr) (.cells #[.int .i64 xa, .int .i64 xb, .int .i64 xc] 30)) hb6'
      clear hb6' c0 c1 c2
      have hb7 := below_step hb6 (below_alloc (Below.refl w6.heap.size w6) (.cells #[.int .i64 o0, .int .i64 o1] 3))
      have HO7 := Aside0.mk (Kd.R_below HO.out hb7)
      have HB7 := Aside0.mk (HB.out.trans (hb7.mono HB.out.size))
      have HC7 := Aside0.mk (lit_C (k := .i64) [o0, o1] (by simp) (heap_alloc_new w6 (.cells #[.int .i64 o0, .int .i64 o1] 3)))
      clear hb6 hb7
      have km : ∀ {W : World} {B : Nat} {x : Int} {cs : List Value} {ok : Nat → Prop}, (Kd.int .i64).K W x cs → (Kd.int .i64).M W B ok x cs := fun h => h
      have KM := Aside0.mk @km
      clear km
      go_wp2_with ((with_reducible refine gate_builtin (b := .append) (xs := #[.tmp 141, .tmp 144]) rfl ?_); at_builtin; refine Kd.R_append_rows (Kd.int .i64) (w0 := wL3) wL3.heap.size rfl (.tmp 141) (.tmp 144) 22 3 (.int .i64 0) 8 rfl Try.underlying22 info3 rfl (by decide) (by omega) u1 (outs3.take (2 * k)) [o0, o1] (some ⟨w6.heap.size, 0, none⟩) 2 2 (fun _ => True) (fun _ => False) rfl rfl HO7.out HC7.out (fun _ _ h => KM.out h) (fun _ hk => hk.elim) (fun _ _ => trivial) HB7.out (below_size HB7.out) (by rw [List.length_take]; omega) ?_; intro vq wq ho hb hg hat)
      exact ⟨⟨k + 1, by omega, rfl, ⟨by rw [← HT.out]; exact ho⟩, ⟨hb⟩⟩, by simp [intOf]; omega⟩
    · obtain rfl : k = 15 := by omega
      have hb := HB.out
      clear HB
      have HB8 := Aside0.mk (below_step HB7.out hb)
      clear HB7 hb
      obtain ⟨A3, c3, e3, hl3, hC3⟩ := Kd.R_reads HO.out
      rw [show outs3.take (2 * 15) = outs3 from rfl] at e3 hl3 hC3
      rw [outs3_len] at e3
      subst e3
      clear HO HL
      go_wp2_with fail
      refine (eqi_lit 31 A3 c3 outs3 30 _ _ _ rfl rfl rfl (by decide) hC3 hl3 outs3_eqi).mono ?_
      rintro e wq3 ⟨rfl, ⟨nd, hw⟩⟩
      have hb : Below wr.heap.size wr wq3 := by rw [hw]; exact pw_below_drewN (below_alloc (Below.refl _ _) _) _
      clear hw hC3 hl3
      have HB9 := Aside0.mk (below_step HB8.out hb)
      clear HB8 hb
      go_upto_region 28 with fail
      go_cut [8, 13, 18, 19] (fun s8 s13 s18 s19 wx => s8 = .bool true ∧ s13 = .bool true ∧ s18 = .bool true ∧ s19 = .pointer (some ⟨wq3.heap.size, 0, none⟩) ∧ Aside0 (wx.heap[wq3.heap.size]? = some (.cells #[.bool false, .int .i64 0, .bool false, .bool false, .int .i64 0, .int .i64 0, .int .i64 0, .int .i64 0, .int .i64 0, .int .i64 10, .int .i64 1, .int .i64 2, .int .i64 3, .int .i64 4, .int .i64 5, .int .i64 0, .int .i64 0, .bool false, .int .i64 0, .int .i64 0, .int .i64 0, .int .i64 0, .int .i64 0, .bool false, .int .i64 0, .int .i64 0, .slice none 0 0, .bool false, .bool false, .bool false] 36 (0, 0)) ∧ Below w.heap.size w wx ∧ wq3.heap.size < wx.heap.size))
      case first =>
        go_wp2_with (with_reducible refine wpList_store_row rfl 36 (.tmp 19) (.tmp 151) rfl _ _ rfl rfl 36 _ (heap_alloc_new _ _) (by kernel_rfl) (by kernel_rfl) (by kernel_rfl) ?_; rw [World.setRow_alloc_new])
        go_meet
        exact ⟨rfl, rfl, rfl, rfl, ⟨heap_alloc_new _ _, below_alloc HB9.out _, by rw [al_size]; omega⟩⟩
      case rest =>
        obtain ⟨rfl, rfl, rfl, rfl, HX⟩ := hcut
        have hs := fun W => steps_any (.bool false) (.int .i64 0) (.bool false) (.bool false) (.int .i64 0) (.int .i64 0) (.int .i64 0) (.int .i64 0) (.int .i64 0) (.int .i64 0) (.int .i64 0) (.bool false) (.int .i64 0) (.int .i64 0) (.int .i64 0) (.int .i64 0) (.int .i64 0) (.bool false) (.int .i64 0) (.int .i64 0) (.slice none 0 0) (.bool false) (.bool false) (.bool false) 10 1 2 3 4 5 W
        rw [hd1.1, hd1.2] at hs
        have S1 := Aside0.mk hs
        clear hs
        have hs := fun W => steps_any (.bool false) (.int .i64 0) (.bool false) (.bool false) (.int .i64 0) (.int .i64 0) (.int .i64 0) (.int .i64 0) (.int .i64 0) (.int .i64 0) (.int .i64 0) (.bool false) (.int .i64 0) (.int .i64 0) (.int .i64 0) (.int .i64 0) (.int .i64 0) (.bool false) (.int .i64 0) (.int .i64 0) (.slice none 0 0) (.bool false) (.bool false) (.bool false) 10 0 0 0 0 32 W
        rw [hd2.1, hd2.2] at hs
        have S2 := Aside0.mk hs
        clear hs
        have hs := fun W => steps_any (.bool false) (.int .i64 0) (.bool false) (.bool false) (.int .i64 0) (.int .i64 0) (.int .i64 0) (.int .i64 0) (.int .i64 0) (.int .i64 0) (.int .i64 0) (.bool false) (.int .i64 0) (.int .i64 0) (.int .i64 0) (.int .i64 0) (.int .i64 0) (.bool false) (.int .i64 0) (.int .i64 0) (.slice none 0 0) (.bool false) (.bool false) (.bool false) 256 0 0 0 0 0 W
        rw [hd3.1, hd3.2] at hs
        have S3 := Aside0.mk hs
        clear hs
        have GX := Aside0.mk HX.out.1
        have HB0 := Aside0.mk HX.out.2.1
        have hz := HX.out.2.2
        clear HX
        go_wp2_with (with_reducible refine wpList_load_row rfl 36 (.tmp 19) rfl _ rfl 36 _ (0, 0) _ GX.out Try.underlying36 rfl (by kernel_rfl) ?_)
        refine (S1.out _).mono ?_
        rintro e w8 ⟨rfl, hb⟩
        have GX8 := Aside0.mk ((hb.block _ hz).trans GX.out)
        have hz8 : wq3.heap.size < w8.heap.size := by have := hb.size; omega
        clear GX hz
        have HB10 := Aside0.mk (below_step HB0.out hb)
        clear HB0 hb
        go_upto_region 30 with fail
        have gx := (heap_alloc_old w8 (.cells #[.int .i64 16, .int .i64 16, .int .i64 17, .int .i64 20, .int .i64 20, .int .i64 23] 39) hz8).trans GX8.out
        have g6 := heap_alloc_new w8 (.cells #[.int .i64 16, .int .i64 16, .int .i64 17, .int .i64 20, .int .i64 20, .int .i64 23] 39)
        have hb := below_alloc (Below.refl w8.heap.size w8) (.cells #[.int .i64 16, .int .i64 16, .int .i64 17, .int .i64 20, .int .i64 20, .int .i64 23] 39)
        have hz8' : wq3.heap.size < (w8.alloc (.cells #[.int .i64 16, .int .i64 16, .int .i64 17, .int .i64 20, .int .i64 20, .int .i64 23] 39)).heap.size := by rw [al_size]; omega
        have hz6' : w8.heap.size < (w8.alloc (.cells #[.int .i64 16, .int .i64 16, .int .i64 17, .int .i64 20, .int .i64 20, .int .i64 23] 39)).heap.size := by rw [al_size]; omega
        obtain ⟨wA, eA⟩ : ∃ x, w8.alloc (.cells #[.int .i64 16, .int .i64 16, .int .i64 17, .int .i64 20, .int .i64 20, .int .i64 23] 39) = x := ⟨_, rfl⟩
        rw [eA] at gx g6 hb hz8' hz6' ⊢
        clear eA GX8 hz8
        have GX8 := Aside0.mk gx
        have G6 := Aside0.mk g6
        clear gx g6
        have hz8 := hz8'
        have hz6 := hz6'
        clear hz8' hz6'
        have HB11 := Aside0.mk (below_step HB10.out hb)
        clear HB10 hb
        go_wp2_with (first | (with_reducible refine wpList_store_row rfl 36 (.tmp 22) (.tmp 158) rfl _ _ rfl rfl 36 _ (heap_alloc_new _ _) (by kernel_rfl) (by kernel_rfl) (by kernel_rfl) ?_; rw [World.setRow_alloc_new]) | (with_reducible refine wpList_load_row rfl 36 (.tmp 22) rfl _ rfl 36 _ (0, 0) _ (heap_alloc_new _ _) Try.underlying36 rfl (by kernel_rfl) ?_))
        refine (S2.out _).mono ?_
        rintro e w9 ⟨rfl, hb0⟩
        have hb := below_step (below_alloc (Below.refl wA.heap.size wA) (.cells #[.bool false, .int .i64 0, .bool false, .bool false, .int .i64 0, .int .i64 0, .int .i64 0, .int .i64 0, .int .i64 0, .int .i64 10, .int .i64 0, .int .i64 0, .int .i64 0, .int .i64 0, .int .i64 32, .int .i64 0, .int .i64 0, .bool false, .int .i64 0, .int .i64 0, .int .i64 0, .int .i64 0, .int .i64 0, .bool false, .int .i64 0, .int .i64 0, .slice none 0 0, .bool false, .bool false, .bool false] 36)) hb0
        clear hb0
        have gx := (hb.block _ hz8).trans GX8.out
        have g6 := (hb.block _ hz6).trans G6.out
        have hz8' : wq3.heap.size < w9.heap.size := Nat.lt_of_lt_of_le hz8 hb.size
        have hz6' : w8.heap.size < w9.heap.size := Nat.lt_of_lt_of_le hz6 hb.size
        clear GX8 G6 hz8 hz6
        have GX8 := Aside0.mk gx
        have G6 := Aside0.mk g6
        clear gx g6
        have hz8 := hz8'
        have hz6 := hz6'
        clear hz8' hz6'
        have HB12 := Aside0.mk (below_step HB11.out hb)
        clear HB11 hb
        go_upto_region 32 with fail
        have gx := (heap_alloc_old w9 (.cells #[.int .i64 0, .int .i64 0, .int .i64 0, .int .i64 0, .int .i64 0, .int .i64 0] 39) hz8).trans GX8.out
        have g6 := (heap_alloc_old w9 (.cells #[.int .i64 0, .int .i64 0, .int .i64 0, .int .i64 0, .int .i64 0, .int .i64 0] 39) hz6).trans G6.out
        have hb := below_alloc (Below.refl w9.heap.size w9) (.cells #[.int .i64 0, .int .i64 0, .int .i64 0, .int .i64 0, .int .i64 0, .int .i64 0] 39)
        have hz8' : wq3.heap.size < (w9.alloc (.cells #[.int .i64 0, .int .i64 0, .int .i64 0, .int .i64 0, .int .i64 0, .int .i64 0] 39)).heap.size := by rw [al_size]; omega
        have hz6' : w8.heap.size < (w9.alloc (.cells #[.int .i64 0, .int .i64 0, .int .i64 0, .int .i64 0, .int .i64 0, .int .i64 0] 39)).heap.size := by rw [al_size]; omega
        obtain ⟨wB, eA⟩ : ∃ x, w9.alloc (.cells #[.int .i64 0, .int .i64 0, .int .i64 0, .int .i64 0, .int .i64 0, .int .i64 0] 39) = x := ⟨_, rfl⟩
        rw [eA] at gx g6 hb hz8' hz6' ⊢
        clear eA GX8 hz8 G6 hz6
        have GX8 := Aside0.mk gx
        have G6 := Aside0.mk g6
        clear gx g6
        have hz8 := hz8'
        have hz6 := hz6'
        clear hz8' hz6'
        have HB13 := Aside0.mk (below_step HB12.out hb)
        clear HB12 hb
        go_wp2_with fail
        refine (S3.out _).mono ?_
        rintro e w10 ⟨rfl, hb0⟩
        have hb := hb0
        clear hb0
        have gx := (hb.block _ hz8).trans GX8.out
        have g6 := (hb.block _ hz6).trans G6.out
        have hz8' : wq3.heap.size < w10.heap.size := Nat.lt_of_lt_of_le hz8 hb.size
        have hz6' : w8.heap.size < w10.heap.size := Nat.lt_of_lt_of_le hz6 hb.size
        clear GX8 G6 hz8 hz6
        have GX8 := Aside0.mk gx
        have G6 := Aside0.mk g6
        clear gx g6
        have hz8 := hz8'
        have hz6 := hz6'
        clear hz8' hz6'
        have HB14 := Aside0.mk (below_step HB13.out hb)
        clear HB13 hb
        go_upto_region 33 with fail
        have gx := (heap_alloc_old w10 (.cells #[.int .i64 0, .int .i64 0, .int .i64 0, .int .i64 0, .int .i64 0, .int .i64 0] 39) hz8).trans GX8.out
        have g6 := (heap_alloc_old w10 (.cells #[.int .i64 0, .int .i64 0, .int .i64 0, .int .i64 0, .int .i64 0, .int .i64 0] 39) hz6).trans G6.out
        have hb := below_alloc (Below.refl w10.heap.size w10) (.cells #[.int .i64 0, .int .i64 0, .int .i64 0, .int .i64 0, .int .i64 0, .int .i64 0] 39)
        have hz8' : wq3.heap.size < (w10.alloc (.cells #[.int .i64 0, .int .i64 0, .int .i64 0, .int .i64 0, .int .i64 0, .int .i64 0] 39)).heap.size := by rw [al_size]; omega
        have hz6' : w8.heap.size < (w10.alloc (.cells #[.int .i64 0, .int .i64 0, .int .i64 0, .int .i64 0, .int .i64 0, .int .i64 0] 39)).heap.size := by rw [al_size]; omega
        obtain ⟨wC, eA⟩ : ∃ x, w10.alloc (.cells #[.int .i64 0, .int .i64 0, .int .i64 0, .int .i64 0, .int .i64 0, .int .i64 0] 39) = x := ⟨_, rfl⟩
        rw [eA] at gx g6 hb hz8' hz6' ⊢
        clear eA GX8 hz8 G6 hz6
        have GX8 := Aside0.mk gx
        have G6 := Aside0.mk g6
        clear gx g6
        have hz8 := hz8'
        have hz6 := hz6'
        clear hz8' hz6'
        have HB15 := Aside0.mk (below_step HB14.out hb)
        clear HB14 hb
        clear S1 S2 S3
        have he : ∀ w, _ := eq6 16 16 17 20 20 23 16 16 17 20 20 23
        simp only [beq_self_eq_true, Bool.and_self] at he
        have hs := fun W => loss23 (.bool false) (.int .i64 0) (.bool true) (.bool false) (.int .i64 0) (.int .i64 0) (.int .i64 0) (.int .i64 0) (.int .i64 0) (.int .i64 0) (.int .i64 0) (.bool false) (.int .i64 0) (.int .i64 0) (.int .i64 0) (.int .i64 0) (.int .i64 0) (.bool false) (.int .i64 0) (.int .i64 0) (.slice none 0 0) (.bool false) (.bool false) (.bool false) 0 0 0 0 0 0 W
        rw [ls1] at hs
        have M1 := Aside0.mk hs
        clear hs
        have hs := fun W => loss23 (.bool false) (.int .i64 0) (.bool false) (.bool false) (.int .i64 0) (.int .i64 0) (.int .i64 0) (.int .i64 0) (.int .i64 0) (.int .i64 0) (.int .i64 0) (.bool false) (.int .i64 0) (.int .i64 0) (.int .i64 0) (.int .i64 0) (.int .i64 0) (.bool false) (.int .i64 0) (.int .i64 0) (.slice none 0 0) (.bool false) (.bool false) (.bool false) 10 1 2 3 4 5 W
        rw [ls2] at hs
        have M2 := Aside0.mk hs
        clear hs
        have hs := fun W => loss23 (.bool false) (.int .i64 0) (.bool false) (.bool false) (.int .i64 0) (.int .i64 0) (.int .i64 0) (.int .i64 0) (.int .i64 0) (.int .i64 0) (.int .i64 0) (.bool false) (.int .i64 0) (.int .i64 0) (.int .i64 0) (.int .i64 0) (.int .i64 0) (.bool false) (.int .i64 0) (.int .i64 0) (.slice none 0 0) (.bool false) (.bool false) (.bool false) 1 0 0 0 0 0 W
        rw [ls3] at hs
        have M3 := Aside0.mk hs
        clear hs
        have hs := fun W => loss23 (.bool false) (.int .i64 0) (.bool false) (.bool false) (.int .i64 0) (.int .i64 0) (.int .i64 0) (.int .i64 0) (.int .i64 0) (.int .i64 0) (.int .i64 0) (.bool false) (.int .i64 0) (.int .i64 0) (.int .i64 0) (.int .i64 0) (.int .i64 0) (.bool false) (.int .i64 0) (.int .i64 0) (.slice none 0 0) (.bool false) (.bool false) (.bool false) 0 0 0 0 0 1 W
        rw [ls4] at hs
        have M4 := Aside0.mk hs
        clear hs
        go_wp2_with (first | (refine gate_guard (by kernel_rfl) ?_; (with_reducible refine wpList_load_row rfl 39 (.tmp 20) rfl _ rfl 39 _ (0, 0) _ G6.out Try.underlying39 rfl (by kernel_rfl) ?_)))
        refine (M1.out _).mono ?_
        rintro e w11 ⟨rfl, hb0⟩
        have hb := hb0
        clear hb0
        have gx := (hb.block _ hz8).trans GX8.out
        have g6 := (hb.block _ hz6).trans G6.out
        have hz8' : wq3.heap.size < w11.heap.size := Nat.lt_of_lt_of_le hz8 hb.size
        have hz6' : w8.heap.size < w11.heap.size := Nat.lt_of_lt_of_le hz6 hb.size
        clear GX8 G6 hz8 hz6
        have GX8 := Aside0.mk gx
        have G6 := Aside0.mk g6
        clear gx g6
        have hz8 := hz8'
        have hz6 := hz6'
        clear hz8' hz6'
        have HB16 := Aside0.mk (below_step HB15.out hb)
        clear HB15 hb
        go_wp2_with (first | (refine gate_guard (by kernel_rfl) ?_; (with_reducible refine wpList_load_row rfl 36 (.tmp 19) rfl _ rfl 36 _ (0, 0) _ GX8.out Try.underlying36 rfl (by kernel_rfl) ?_)))
        refine (M2.out _).mono ?_
        rintro e w12 ⟨rfl, hb0⟩
        have hb := hb0
        clear hb0
        have gx := (hb.block _ hz8).trans GX8.out
        have g6 := (hb.block _ hz6).trans G6.out
        have hz8' : wq3.heap.size < w12.heap.size := Nat.lt_of_lt_of_le hz8 hb.size
        have hz6' : w8.heap.size < w12.heap.size := Nat.lt_of_lt_of_le hz6 hb.size
        clear GX8 G6 hz8 hz6
        have GX8 := Aside0.mk gx
        have G6 := Aside0.mk g6
        clear gx g6
        have hz8 := hz8'
        have hz6 := hz6'
        clear hz8' hz6'
        have HB17 := Aside0.mk (below_step HB16.out hb)
        clear HB16 hb
        go_wp2_with fail
        refine (M3.out _).mono ?_
        rintro e w13 ⟨rfl, hb0⟩
        have hb := hb0
        clear hb0
        have gx := (hb.block _ hz8).trans GX8.out
        have g6 := (hb.block _ hz6).trans G6.out
        have hz8' : wq3.heap.size < w13.heap.size := Nat.lt_of_lt_of_le hz8 hb.size
        have hz6' : w8.heap.size < w13.heap.size := Nat.lt_of_lt_of_le hz6 hb.size
        clear GX8 G6 hz8 hz6
        have GX8 := Aside0.mk gx
        have G6 := Aside0.mk g6
        clear gx g6
        have hz8 := hz8'
        have hz6 := hz6'
        clear hz8' hz6'
        have HB18 := Aside0.mk (below_step HB17.out hb)
        clear HB17 hb
        go_wp2_with fail
        refine (M4.out _).mono ?_
        rintro e w14 ⟨rfl, hb0⟩
        have hb := hb0
        clear hb0
        have gx := (hb.block _ hz8).trans GX8.out
        have g6 := (hb.block _ hz6).trans G6.out
        have hz8' : wq3.heap.size < w14.heap.size := Nat.lt_of_lt_of_le hz8 hb.size
        have hz6' : w8.heap.size < w14.heap.size := Nat.lt_of_lt_of_le hz6 hb.size
        clear GX8 G6 hz8 hz6
        have GX8 := Aside0.mk gx
        have G6 := Aside0.mk g6
        clear gx g6
        have hz8 := hz8'
        have hz6 := hz6'
        clear hz8' hz6'
        have HB19 := Aside0.mk (below_step HB18.out hb)
        clear HB18 hb
        have HD := HB19
        go_wp2_with fail
        refine (works_quiet _).mono ?_
        rintro e w11 ⟨rfl, hd⟩
        have HE := Aside0.mk (below_step HD.out hd.below)
        clear hd
        go_wp2_with fail
        go_ret
        exact ⟨rfl, HE.out⟩
theorem law_known (W : World) : Calls Try.prog 8 #[] W fun e w' => e = .returned (.bool true) ∧ Below W.heap.size W w' := known_walk W
end Go.Proofs.Ytgflgeblimiocaa.Lk
