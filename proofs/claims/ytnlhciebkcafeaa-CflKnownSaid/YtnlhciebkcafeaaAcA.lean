/- The walk of cfl.Ac where the block and the samples are in order, at the widths 4, 8, 12, 16: it answers what of the brightness goes into the colours. -/
import Derived.Test.YtnlhciebkcafeaaPCflAcsx1
import Derived.Test.YtnlhciebkcafeaaCf
namespace Go.Proofs.Ytnlhciebkcafeaa.Ac
open Go.RowKit Go.Proofs.Ytnlhciebkcafeaa.PCflAcs Go.Proofs.YtnlhciebkcafeaaW.PrintWords Go.Proofs.YtnlhciebkcafeaaW.PrintLast Go.Proofs.YtnlhciebkcafeaaW.PrintMore Go.Proofs.Ytnlhciebkcafeaa.Cf

set_option maxRecDepth 100000 in
set_option maxHeartbeats 4000000 in
theorem ac_walk4 (b off c0 : Nat) (l0 : List Int) (H : Nat) (w : World) (hby : Bytes l0) (hH4 : 4 ≤ H) (hH : H ≤ 32) (hlen : l0.length = 16 * H) (hc0 : l0.length ≤ c0)
    (hcell : ∀ j, j < l0.length → w.cell? ⟨b, off + j, none⟩ = some (.int .u8 (l0.getD j 0))) (hs1 : cfl_side.f 4 = some true) (hs2 : cfl_side.f H = some true) :
    Calls Try.prog 9 #[.slice (some ⟨b, off, none⟩) l0.length c0, .int .i64 4, .int .i64 H] w fun e w' => ∃ v, e = .returned (.tuple #[v, .int .i64 0]) ∧ Kd.R (Kd.int .i64) 3 w' w.heap.size (fun _ => True) v (acs l0 4 H) ∧ Below w.heap.size w w' := by
  have S1 := Aside0.mk hs1
  have S2 := Aside0.mk hs2
  have HC := Aside0.mk hcell
  have HY := Aside0.mk hby
  have HL := Aside0.mk hlen
  have HN1 : (l0.length : Int) ≤ 16 * (H : Int) := by omega
  have HN2 : 16 * (H : Int) ≤ (l0.length : Int) := by omega
  clear hs1 hs2 hcell hby hlen
  obtain ⟨i0, hi, hz0, hz1, hz2⟩ := info_parts info3
  go_enter Try.func9, Try.ntmps9
  go_wp2_with (first | (go_at_call 22; (with_reducible refine (cfl_side.calls _ true _ S1.out).mono ?_); rintro e w' ⟨rfl, ⟨nd, rfl⟩⟩) | (go_at_call 22; (with_reducible refine (cfl_side.calls _ true _ S2.out).mono ?_); rintro e w' ⟨rfl, ⟨nd, rfl⟩⟩) | (at_make; refine wpList_make_own _ rfl _ _ 24 rfl w.heap.size 3 i0 (.int .i64 0) 1 Try.underlying24 hi hz0 hz1 .i64 .i64 _ (4 * H) rfl rfl (by omega) (by rw [hz2]; omega) (by unfold maxLen; omega) (by simp) ?_; intro w0 hown0 hgrow0))
  clear S1 S2 hz0 hz1 hz2 hi i0
  have HB := Aside0.mk (pw_below_grown (pw_below_drewN (Below.refl w.heap.size w) _) none (by simp) hgrow0 (by simp))
  have HO : Aside0 (Kd.R (Kd.int .i64) 3 w0 w.heap.size (fun _ => True) (.slice (some ⟨w.heap.size, 0, none⟩) 0 (4 * H)) (vs l0 4 0)) := ⟨⟨fun _ _ => trivial, [], hown0, Reps.none _ _⟩⟩
  clear hown0 hgrow0
  have T0 : ((4 : Int) * (H : Int) / 2) = tot l0 4 H (4 * 0) := by unfold tot vs; simp
  rw [T0]
  clear T0
  go_loopw [8, 9, 43] (fun v8 v9 v43 wr => ∃ y : Nat, y ≤ H ∧ v43 = .int .i64 y ∧ v9 = .int .i64 (tot l0 4 H (4 * y)) ∧ Aside0 (Kd.R (Kd.int .i64) 3 wr w.heap.size (fun _ => True) v8 (vs l0 4 (4 * y))) ∧ Aside0 (Below w.heap.size w wr)) (fun _ _ v43 _ => H - (intOf v43).toNat)
  case atStart => exact ⟨0, Nat.zero_le _, rfl, rfl, HO, HB⟩
  case round =>
    clear HO HB
    obtain ⟨y, hy, rfl, rfl, HO, HB⟩ := hrel
    have ht := tot_in HY.out 4 H (4 * y)
    have ht0 := ht.1
    have ht1 : tot l0 4 H (4 * y) ≤ 4200000 := by have := ht.2; omega
    clear ht
    by_cases hlt : y < H
    · go_wp2
      go_quiet (fail)
      go_wp2
      go_loopw [8, 9, 68] (fun v8 v9 v68 wr => ∃ x : Nat, x ≤ 4 ∧ v68 = .int .i64 x ∧ v9 = .int .i64 (tot l0 4 H (4 * y + x)) ∧ Aside0 (Kd.R (Kd.int .i64) 3 wr w.heap.size (fun _ => True) v8 (vs l0 4 (4 * y + x))) ∧ Aside0 (Below w.heap.size w wr)) (fun _ _ v68 _ => 4 - (intOf v68).toNat)
      case atStart => exact ⟨0, Nat.zero_le _, rfl, rfl, ⟨by (with_reducible repeat (first | apply Kd.R_alloc | apply Kd.R_drewN | apply Kd.R_drew)); exact HO.out⟩, ⟨pw_below_drewN HB.out _⟩⟩
      case round =>
        clear HO HB ht0 ht1
        obtain ⟨x, hx, rfl, rfl, HO, HB⟩ := hrel
        have ht := tot_in HY.out 4 H (4 * y + x)
        have ht0 := ht.1
        have ht1 : tot l0 4 H (4 * y + x) ≤ 4200000 := by have := ht.2; omega
        clear ht
        by_cases hlx : x < 4
        · have hv := v2_at l0 4 y x hlx
          have a0 := getD_byte HY.out (16 * y + 2 * x)
          have a1 := getD_byte HY.out (16 * y + 2 * x + 1)
          have a2 := getD_byte HY.out (16 * y + 8 + 2 * x)
          have a3 := getD_byte HY.out (16 * y + 8 + 2 * x + 1)
          have hlen := HL.out
          have e0 := HC.out (16 * y + 2 * x) (by omega)
          have c0 := (HB.out.cell (World.block_lt_of_cell? w _ e0)).trans e0
          rw [show off + (16 * y + 2 * x) = off + 16 * y + 2 * x by omega] at c0
          have e1 := HC.out (16 * y + 2 * x + 1) (by omega)
          have c1 := (HB.out.cell (World.block_lt_of_cell? w _ e1)).trans e1
          rw [show off + (16 * y + 2 * x + 1) = off + 16 * y + (2 * x + 1) by omega] at c1
          have e2 := HC.out (16 * y + 8 + 2 * x) (by omega)
          have c2 := (HB.out.cell (World.block_lt_of_cell? w _ e2)).trans e2
          rw [show off + (16 * y + 8 + 2 * x) = off + (16 * y + 8) + 2 * x by omega] at c2
          have e3 := HC.out (16 * y + 8 + 2 * x + 1) (by omega)
          have c3 := (HB.out.cell (World.block_lt_of_cell? w _ e3)).trans e3
          rw [show off + (16 * y + 8 + 2 * x + 1) = off + (16 * y + 8) + (2 * x + 1) by omega] at c3
          clear hlen e0 e1 e2 e3
          generalize l0.getD (16 * y + 2 * x) 0 = p0 at *
          generalize l0.getD (16 * y + 2 * x + 1) 0 = p1 at *
          generalize l0.getD (16 * y + 8 + 2 * x) 0 = p2 at *
          generalize l0.getD (16 * y + 8 + 2 * x + 1) 0 = p3 at *
          go_wp2
          go_quiet (fail)
          go_wp2_with ((with_reducible refine gate_builtin (b := .append) (xs := #[.tmp 100, .tmp 103]) rfl ?_); at_builtin; refine Kd.R_append (Kd.int .i64) (w0 := w) w.heap.size rfl (.tmp 100) (.tmp 103) 24 3 (.int .i64 0) 8 rfl Try.underlying24 info3 rfl (by decide) (by omega) u8 (vs l0 4 (4 * y + x)) (2 * (p0 + p1 + p2 + p3)) [.int .i64 (2 * (p0 + p1 + p2 + p3))] (fun _ => True) (fun _ => False) rfl rfl ?aP (fun _ hk => hk.elim) ?aF ?aO ?aB ?aS ?aL ?_; (case aP => exact rfl); (case aB => exact (by repeat (first | (with_reducible first | exact HB.out | apply below_alloc | apply pw_below_drewN | apply below_drew1) | exact HB.out))); (case aF => exact (fun _ _ => trivial)); (case aO => exact (by (with_reducible repeat (first | apply Kd.R_alloc | apply Kd.R_drewN | apply Kd.R_drew)); exact HO.out)); (case aS => exact (below_size (by repeat (first | (with_reducible first | exact HB.out | apply below_alloc | apply pw_below_drewN | apply below_drew1) | exact HB.out)))); (case aL => rw [vs_length]; omega); intro v113 w25 ho hb hg hat; have n0_ := Aside0.mk hb; have n1_ := Aside0.mk ho; clear HB HO; have HB := n0_; have HO := n1_; clear n0_ n1_; clear ho hb hg hat)
          go_roundw
          case rel =>
            have r1 := tot_succ l0 4 H (4 * y + x)
            have r2 := vs_succ l0 4 (4 * y + x)
            rw [hv] at r1 r2
            have HO' := HO.out
            rw [← r2] at HO'
            rw [← r1]
            first | exact ⟨x + 1, by omega, by go_num, rfl, ⟨HO'⟩, HB⟩ | ((repeat apply Exists.intro); exact ⟨⟨x + 1, by omega, by go_num, rfl, ⟨HO'⟩, HB⟩, rfl⟩)
          case measure => simp [intOf]; omega
        · have hx4 : x = 4 := by omega
          subst hx4
          go_wp2
          go_roundw
          case rel => exact ⟨y + 1, by omega, by go_num, by rw [show 4 * (y + 1) = 4 * y + 4 by omega], ⟨by rw [show 4 * (y + 1) = 4 * y + 4 by omega]; exact HO.out⟩, HB⟩
          case measure => simp [intOf]; omega
    · have hyH : y = H := by omega
      subst hyH
      obtain ⟨Ao, co, eo⟩ := Kd.R_slice HO.out
      subst eo
      have hvl := vs_length l0 4 (4 * y)
      have hn0 : 0 < (vs l0 4 (4 * y)).length := by omega
      obtain ⟨go, cp, ef, gb, gl, cells, hg⟩ := Kd.R_form HO.out hn0
      (injection ef with ea en ec; subst ea; subst ec; clear en)
      rw [hvl] at HO ⊢
      have hm := mean_in HY.out 4 y
      have hm0 := hm.1
      have hm1 : mean l0 4 y ≤ 4200000 := by have := hm.2; omega
      have HM : tot l0 4 y (4 * y) / (4 * (y : Int)) = mean l0 4 y := by unfold mean; congr 1
      have GB := Aside0.mk gb
      clear hm gl hg cells gb hn0 hvl
      go_wp2
      rw [HM]
      clear HM
      rw [← upd_zero] at HO
      clear ht0 ht1
      go_loopw [118] (fun v118 wr => ∃ i : Nat, i ≤ 4 * y ∧ v118 = .int .i64 i ∧ Aside0 (Kd.R (Kd.int .i64) 3 wr w.heap.size (fun _ => True) (.slice (some ⟨go, 0, none⟩) (4 * y) co) (upd l0 4 y i)) ∧ Aside0 (Below w.heap.size w wr)) (fun v118 _ => 4 * y - (intOf v118).toNat)
      case atStart => exact ⟨0, Nat.zero_le _, rfl, HO, HB⟩
      case round =>
        clear HO HB
        obtain ⟨i, hi, rfl, HO, HB⟩ := hrel
        by_cases hli : i < 4 * y
        · obtain ⟨hx0, hf0⟩ := Kd.R_celln 0 HO.out (i : Int) (by omega) (by omega)
          have hv := v2_in HY.out 4 i
          have hv0 := hv.1
          have hv1 := hv.2
          have hg : rdOf 0 (upd l0 4 y i) (i : Int) = v2 l0 4 i := by unfold rdOf; rw [Int.toNat_natCast]; exact upd_get l0 4 y i hli
          have HP := Aside0.mk (Kd.R_putg HO.out (i : Int) (v2 l0 4 i - mean l0 4 y))
          rw [hg] at hx0
          rw [Int.toNat_natCast, upd_set l0 4 y i hli] at HP
          rw [Int.toNat_natCast] at hx0 hf0
          clear hg hv
          go_wp2_with ((with_reducible refine gate_store (t := 3) (p := 127) rfl ?_); refine store_event (t := 3) (p := 127) (v := ?vo) (w1 := wr.setCell ⟨go, i, none⟩ (.int .i64 (v2 l0 4 i - mean l0 4 y))) ?hg ?ho ?hn ?hr ?_; (case ho => rfl); (case hg => rfl); (case hn => rfl); (case hr => first | (go_simp; done) | (go_simp; rfl)); intro w33 hw; have n0_ := Aside0.mk (show Kd.R (Kd.int .i64) 3 w33 w.heap.size (fun _ => True) (.slice (some ⟨go, 0, none⟩) (4 * y) co) (upd l0 4 y (i + 1)) from by rw [hw]; exact HP.out.1); have n1_ := Aside0.mk (show Below w.heap.size w w33 from by rw [hw]; exact below_set HB.out GB.out); clear HO HB HP hw hx0 hf0; have HO := n0_; have HB := n1_; clear n0_ n1_)
          go_roundw
          case rel => first | exact ⟨i + 1, by omega, by go_num, HO, HB⟩ | ((repeat apply Exists.intro); exact ⟨⟨i + 1, by omega, by go_num, HO, HB⟩, rfl⟩)
          case measure => simp [intOf]; omega
        · have hiH : i = 4 * y := by omega
          subst hiH
          rw [upd_all] at HO
          go_wp2
          go_ret2
          exact ⟨_, rfl, HO.out, HB.out⟩

set_option maxRecDepth 100000 in
set_option maxHeartbeats 4000000 in
theorem ac_walk8 (b off c0 : Nat) (l0 : List Int) (H : Nat) (w : World) (hby : Bytes l0) (hH4 : 4 ≤ H) (hH : H ≤ 32) (hlen : l0.length = 32 * H) (hc0 : l0.length ≤ c0)
    (hcell : ∀ j, j < l0.length → w.cell? ⟨b, off + j, none⟩ = some (.int .u8 (l0.getD j 0))) (hs1 : cfl_side.f 8 = some true) (hs2 : cfl_side.f H = some true) :
    Calls Try.prog 9 #[.slice (some ⟨b, off, none⟩) l0.length c0, .int .i64 8, .int .i64 H] w fun e w' => ∃ v, e = .returned (.tuple #[v, .int .i64 0]) ∧ Kd.R (Kd.int .i64) 3 w' w.heap.size (fun _ => True) v (acs l0 8 H) ∧ Below w.heap.size w w' := by
  have S1 := Aside0.mk hs1
  have S2 := Aside0.mk hs2
  have HC := Aside0.mk hcell
  have HY := Aside0.mk hby
  have HL := Aside0.mk hlen
  have HN1 : (l0.length : Int) ≤ 32 * (H : Int) := by omega
  have HN2 : 32 * (H : Int) ≤ (l0.length : Int) := by omega
  clear hs1 hs2 hcell hby hlen
  obtain ⟨i0, hi, hz0, hz1, hz2⟩ := info_parts info3
  go_enter Try.func9, Try.ntmps9
  go_wp2_with (first | (go_at_call 22; (with_reducible refine (cfl_side.calls _ true _ S1.out).mono ?_); rintro e w' ⟨rfl, ⟨nd, rfl⟩⟩) | (go_at_call 22; (with_reducible refine (cfl_side.calls _ true _ S2.out).mono ?_); rintro e w' ⟨rfl, ⟨nd, rfl⟩⟩) | (at_make; refine wpList_make_own _ rfl _ _ 24 rfl w.heap.size 3 i0 (.int .i64 0) 1 Try.underlying24 hi hz0 hz1 .i64 .i64 _ (8 * H) rfl rfl (by omega) (by rw [hz2]; omega) (by unfold maxLen; omega) (by simp) ?_; intro w0 hown0 hgrow0))
  clear S1 S2 hz0 hz1 hz2 hi i0
  have HB := Aside0.mk (pw_below_grown (pw_below_drewN (Below.refl w.heap.size w) _) none (by simp) hgrow0 (by simp))
  have HO : Aside0 (Kd.R (Kd.int .i64) 3 w0 w.heap.size (fun _ => True) (.slice (some ⟨w.heap.size, 0, none⟩) 0 (8 * H)) (vs l0 8 0)) := ⟨⟨fun _ _ => trivial, [], hown0, Reps.none _ _⟩⟩
  clear hown0 hgrow0
  have T0 : ((8 : Int) * (H : Int) / 2) = tot l0 8 H (8 * 0) := by unfold tot vs; simp
  rw [T0]
  clear T0
  go_loopw [8, 9, 43] (fun v8 v9 v43 wr => ∃ y : Nat, y ≤ H ∧ v43 = .int .i64 y ∧ v9 = .int .i64 (tot l0 8 H (8 * y)) ∧ Aside0 (Kd.R (Kd.int .i64) 3 wr w.heap.size (fun _ => True) v8 (vs l0 8 (8 * y))) ∧ Aside0 (Below w.heap.size w wr)) (fun _ _ v43 _ => H - (intOf v43).toNat)
  case atStart => exact ⟨0, Nat.zero_le _, rfl, rfl, HO, HB⟩
  case round =>
    clear HO HB
    obtain ⟨y, hy, rfl, rfl, HO, HB⟩ := hrel
    have ht := tot_in HY.out 8 H (8 * y)
    have ht0 := ht.1
    have ht1 : tot l0 8 H (8 * y) ≤ 4200000 := by have := ht.2; omega
    clear ht
    by_cases hlt : y < H
    · go_wp2
      go_quiet (fail)
      go_wp2
      go_loopw [8, 9, 68] (fun v8 v9 v68 wr => ∃ x : Nat, x ≤ 8 ∧ v68 = .int .i64 x ∧ v9 = .int .i64 (tot l0 8 H (8 * y + x)) ∧ Aside0 (Kd.R (Kd.int .i64) 3 wr w.heap.size (fun _ => True) v8 (vs l0 8 (8 * y + x))) ∧ Aside0 (Below w.heap.size w wr)) (fun _ _ v68 _ => 8 - (intOf v68).toNat)
      case atStart => exact ⟨0, Nat.zero_le _, rfl, rfl, ⟨by (with_reducible repeat (first | apply Kd.R_alloc | apply Kd.R_drewN | apply Kd.R_drew)); exact HO.out⟩, ⟨pw_below_drewN HB.out _⟩⟩
      case round =>
        clear HO HB ht0 ht1
        obtain ⟨x, hx, rfl, rfl, HO, HB⟩ := hrel
        have ht := tot_in HY.out 8 H (8 * y + x)
        have ht0 := ht.1
        have ht1 : tot l0 8 H (8 * y + x) ≤ 4200000 := by have := ht.2; omega
        clear ht
        by_cases hlx : x < 8
        · have hv := v2_at l0 8 y x hlx
          have a0 := getD_byte HY.out (32 * y + 2 * x)
          have a1 := getD_byte HY.out (32 * y + 2 * x + 1)
          have a2 := getD_byte HY.out (32 * y + 16 + 2 * x)
          have a3 := getD_byte HY.out (32 * y + 16 + 2 * x + 1)
          have hlen := HL.out
          have e0 := HC.out (32 * y + 2 * x) (by omega)
          have c0 := (HB.out.cell (World.block_lt_of_cell? w _ e0)).trans e0
          rw [show off + (32 * y + 2 * x) = off + 32 * y + 2 * x by omega] at c0
          have e1 := HC.out (32 * y + 2 * x + 1) (by omega)
          have c1 := (HB.out.cell (World.block_lt_of_cell? w _ e1)).trans e1
          rw [show off + (32 * y + 2 * x + 1) = off + 32 * y + (2 * x + 1) by omega] at c1
          have e2 := HC.out (32 * y + 16 + 2 * x) (by omega)
          have c2 := (HB.out.cell (World.block_lt_of_cell? w _ e2)).trans e2
          rw [show off + (32 * y + 16 + 2 * x) = off + (32 * y + 16) + 2 * x by omega] at c2
          have e3 := HC.out (32 * y + 16 + 2 * x + 1) (by omega)
          have c3 := (HB.out.cell (World.block_lt_of_cell? w _ e3)).trans e3
          rw [show off + (32 * y + 16 + 2 * x + 1) = off + (32 * y + 16) + (2 * x + 1) by omega] at c3
          clear hlen e0 e1 e2 e3
          generalize l0.getD (32 * y + 2 * x) 0 = p0 at *
          generalize l0.getD (32 * y + 2 * x + 1) 0 = p1 at *
          generalize l0.getD (32 * y + 16 + 2 * x) 0 = p2 at *
          generalize l0.getD (32 * y + 16 + 2 * x + 1) 0 = p3 at *
          go_wp2
          go_quiet (fail)
          go_wp2_with ((with_reducible refine gate_builtin (b := .append) (xs := #[.tmp 100, .tmp 103]) rfl ?_); at_builtin; refine Kd.R_append (Kd.int .i64) (w0 := w) w.heap.size rfl (.tmp 100) (.tmp 103) 24 3 (.int .i64 0) 8 rfl Try.underlying24 info3 rfl (by decide) (by omega) u8 (vs l0 8 (8 * y + x)) (2 * (p0 + p1 + p2 + p3)) [.int .i64 (2 * (p0 + p1 + p2 + p3))] (fun _ => True) (fun _ => False) rfl rfl ?aP (fun _ hk => hk.elim) ?aF ?aO ?aB ?aS ?aL ?_; (case aP => exact rfl); (case aB => exact (by repeat (first | (with_reducible first | exact HB.out | apply below_alloc | apply pw_below_drewN | apply below_drew1) | exact HB.out))); (case aF => exact (fun _ _ => trivial)); (case aO => exact (by (with_reducible repeat (first | apply Kd.R_alloc | apply Kd.R_drewN | apply Kd.R_drew)); exact HO.out)); (case aS => exact (below_size (by repeat (first | (with_reducible first | exact HB.out | apply below_alloc | apply pw_below_drewN | apply below_drew1) | exact HB.out)))); (case aL => rw [vs_length]; omega); intro v113 w25 ho hb hg hat; have n0_ := Aside0.mk hb; have n1_ := Aside0.mk ho; clear HB HO; have HB := n0_; have HO := n1_; clear n0_ n1_; clear ho hb hg hat)
          go_roundw
          case rel =>
            have r1 := tot_succ l0 8 H (8 * y + x)
            have r2 := vs_succ l0 8 (8 * y + x)
            rw [hv] at r1 r2
            have HO' := HO.out
            rw [← r2] at HO'
            rw [← r1]
            first | exact ⟨x + 1, by omega, by go_num, rfl, ⟨HO'⟩, HB⟩ | ((repeat apply Exists.intro); exact ⟨⟨x + 1, by omega, by go_num, rfl, ⟨HO'⟩, HB⟩, rfl⟩)
          case measure => simp [intOf]; omega
        · have hx4 : x = 8 := by omega
          subst hx4
          go_wp2
          go_roundw
          case rel => exact ⟨y + 1, by omega, by go_num, by rw [show 8 * (y + 1) = 8 * y + 8 by omega], ⟨by rw [show 8 * (y + 1) = 8 * y + 8 by omega]; exact HO.out⟩, HB⟩
          case measure => simp [intOf]; omega
    · have hyH : y = H := by omega
      subst hyH
      obtain ⟨Ao, co, eo⟩ := Kd.R_slice HO.out
      subst eo
      have hvl := vs_length l0 8 (8 * y)
      have hn0 : 0 < (vs l0 8 (8 * y)).length := by omega
      obtain ⟨go, cp, ef, gb, gl, cells, hg⟩ := Kd.R_form HO.out hn0
      (injection ef with ea en ec; subst ea; subst ec; clear en)
      rw [hvl] at HO ⊢
      have hm := mean_in HY.out 8 y
      have hm0 := hm.1
      have hm1 : mean l0 8 y ≤ 4200000 := by have := hm.2; omega
      have HM : tot l0 8 y (8 * y) / (8 * (y : Int)) = mean l0 8 y := by unfold mean; congr 1
      have GB := Aside0.mk gb
      clear hm gl hg cells gb hn0 hvl
      go_wp2
      rw [HM]
      clear HM
      rw [← upd_zero] at HO
      clear ht0 ht1
      go_loopw [118] (fun v118 wr => ∃ i : Nat, i ≤ 8 * y ∧ v118 = .int .i64 i ∧ Aside0 (Kd.R (Kd.int .i64) 3 wr w.heap.size (fun _ => True) (.slice (some ⟨go, 0, none⟩) (8 * y) co) (upd l0 8 y i)) ∧ Aside0 (Below w.heap.size w wr)) (fun v118 _ => 8 * y - (intOf v118).toNat)
      case atStart => exact ⟨0, Nat.zero_le _, rfl, HO, HB⟩
      case round =>
        clear HO HB
        obtain ⟨i, hi, rfl, HO, HB⟩ := hrel
        by_cases hli : i < 8 * y
        · obtain ⟨hx0, hf0⟩ := Kd.R_celln 0 HO.out (i : Int) (by omega) (by omega)
          have hv := v2_in HY.out 8 i
          have hv0 := hv.1
          have hv1 := hv.2
          have hg : rdOf 0 (upd l0 8 y i) (i : Int) = v2 l0 8 i := by unfold rdOf; rw [Int.toNat_natCast]; exact upd_get l0 8 y i hli
          have HP := Aside0.mk (Kd.R_putg HO.out (i : Int) (v2 l0 8 i - mean l0 8 y))
          rw [hg] at hx0
          rw [Int.toNat_natCast, upd_set l0 8 y i hli] at HP
          rw [Int.toNat_natCast] at hx0 hf0
          clear hg hv
          go_wp2_with ((with_reducible refine gate_store (t := 3) (p := 127) rfl ?_); refine store_event (t := 3) (p := 127) (v := ?vo) (w1 := wr.setCell ⟨go, i, none⟩ (.int .i64 (v2 l0 8 i - mean l0 8 y))) ?hg ?ho ?hn ?hr ?_; (case ho => rfl); (case hg => rfl); (case hn => rfl); (case hr => first | (go_simp; done) | (go_simp; rfl)); intro w33 hw; have n0_ := Aside0.mk (show Kd.R (Kd.int .i64) 3 w33 w.heap.size (fun _ => True) (.slice (some ⟨go, 0, none⟩) (8 * y) co) (upd l0 8 y (i + 1)) from by rw [hw]; exact HP.out.1); have n1_ := Aside0.mk (show Below w.heap.size w w33 from by rw [hw]; exact below_set HB.out GB.out); clear HO HB HP hw hx0 hf0; have HO := n0_; have HB := n1_; clear n0_ n1_)
          go_roundw
          case rel => first | exact ⟨i + 1, by omega, by go_num, HO, HB⟩ | ((repeat apply Exists.intro); exact ⟨⟨i + 1, by omega, by go_num, HO, HB⟩, rfl⟩)
          case measure => simp [intOf]; omega
        · have hiH : i = 8 * y := by omega
          subst hiH
          rw [upd_all] at HO
          go_wp2
          go_ret2
          exact ⟨_, rfl, HO.out, HB.out⟩

set_option maxRecDepth 100000 in
set_option maxHeartbeats 4000000 in
theorem ac_walk12 (b off c0 : Nat) (l0 : List Int) (H : Nat) (w : World) (hby : Bytes l0) (hH4 : 4 ≤ H) (hH : H ≤ 32) (hlen : l0.length = 48 * H) (hc0 : l0.length ≤ c0)
    (hcell : ∀ j, j < l0.length → w.cell? ⟨b, off + j, none⟩ = some (.int .u8 (l0.getD j 0))) (hs1 : cfl_side.f 12 = some true) (hs2 : cfl_side.f H = some true) :
    Calls Try.prog 9 #[.slice (some ⟨b, off, none⟩) l0.length c0, .int .i64 12, .int .i64 H] w fun e w' => ∃ v, e = .returned (.tuple #[v, .int .i64 0]) ∧ Kd.R (Kd.int .i64) 3 w' w.heap.size (fun _ => True) v (acs l0 12 H) ∧ Below w.heap.size w w' := by
  have S1 := Aside0.mk hs1
  have S2 := Aside0.mk hs2
  have HC := Aside0.mk hcell
  have HY := Aside0.mk hby
  have HL := Aside0.mk hlen
  have HN1 : (l0.length : Int) ≤ 48 * (H : Int) := by omega
  have HN2 : 48 * (H : Int) ≤ (l0.length : Int) := by omega
  clear hs1 hs2 hcell hby hlen
  obtain ⟨i0, hi, hz0, hz1, hz2⟩ := info_parts info3
  go_enter Try.func9, Try.ntmps9
  go_wp2_with (first | (go_at_call 22; (with_reducible refine (cfl_side.calls _ true _ S1.out).mono ?_); rintro e w' ⟨rfl, ⟨nd, rfl⟩⟩) | (go_at_call 22; (with_reducible refine (cfl_side.calls _ true _ S2.out).mono ?_); rintro e w' ⟨rfl, ⟨nd, rfl⟩⟩) | (at_make; refine wpList_make_own _ rfl _ _ 24 rfl w.heap.size 3 i0 (.int .i64 0) 1 Try.underlying24 hi hz0 hz1 .i64 .i64 _ (12 * H) rfl rfl (by omega) (by rw [hz2]; omega) (by unfold maxLen; omega) (by simp) ?_; intro w0 hown0 hgrow0))
  clear S1 S2 hz0 hz1 hz2 hi i0
  have HB := Aside0.mk (pw_below_grown (pw_below_drewN (Below.refl w.heap.size w) _) none (by simp) hgrow0 (by simp))
  have HO : Aside0 (Kd.R (Kd.int .i64) 3 w0 w.heap.size (fun _ => True) (.slice (some ⟨w.heap.size, 0, none⟩) 0 (12 * H)) (vs l0 12 0)) := ⟨⟨fun _ _ => trivial, [], hown0, Reps.none _ _⟩⟩
  clear hown0 hgrow0
  have T0 : ((12 : Int) * (H : Int) / 2) = tot l0 12 H (12 * 0) := by unfold tot vs; simp
  rw [T0]
  clear T0
  go_loopw [8, 9, 43] (fun v8 v9 v43 wr => ∃ y : Nat, y ≤ H ∧ v43 = .int .i64 y ∧ v9 = .int .i64 (tot l0 12 H (12 * y)) ∧ Aside0 (Kd.R (Kd.int .i64) 3 wr w.heap.size (fun _ => True) v8 (vs l0 12 (12 * y))) ∧ Aside0 (Below w.heap.size w wr)) (fun _ _ v43 _ => H - (intOf v43).toNat)
  case atStart => exact ⟨0, Nat.zero_le _, rfl, rfl, HO, HB⟩
  case round =>
    clear HO HB
    obtain ⟨y, hy, rfl, rfl, HO, HB⟩ := hrel
    have ht := tot_in HY.out 12 H (12 * y)
    have ht0 := ht.1
    have ht1 : tot l0 12 H (12 * y) ≤ 4200000 := by have := ht.2; omega
    clear ht
    by_cases hlt : y < H
    · go_wp2
      go_quiet (fail)
      go_wp2
      go_loopw [8, 9, 68] (fun v8 v9 v68 wr => ∃ x : Nat, x ≤ 12 ∧ v68 = .int .i64 x ∧ v9 = .int .i64 (tot l0 12 H (12 * y + x)) ∧ Aside0 (Kd.R (Kd.int .i64) 3 wr w.heap.size (fun _ => True) v8 (vs l0 12 (12 * y + x))) ∧ Aside0 (Below w.heap.size w wr)) (fun _ _ v68 _ => 12 - (intOf v68).toNat)
      case atStart => exact ⟨0, Nat.zero_le _, rfl, rfl, ⟨by (with_reducible repeat (first | apply Kd.R_alloc | apply Kd.R_drewN | apply Kd.R_drew)); exact HO.out⟩, ⟨pw_below_drewN HB.out _⟩⟩
      case round =>
        clear HO HB ht0 ht1
        obtain ⟨x, hx, rfl, rfl, HO, HB⟩ := hrel
        have ht := tot_in HY.out 12 H (12 * y + x)
        have ht0 := ht.1
        have ht1 : tot l0 12 H (12 * y + x) ≤ 4200000 := by have := ht.2; omega
        clear ht
        by_cases hlx : x < 12
        · have hv := v2_at l0 12 y x hlx
          have a0 := getD_byte HY.out (48 * y + 2 * x)
          have a1 := getD_byte HY.out (48 * y + 2 * x + 1)
          have a2 := getD_byte HY.out (48 * y + 24 + 2 * x)
          have a3 := getD_byte HY.out (48 * y + 24 + 2 * x + 1)
          have hlen := HL.out
          have e0 := HC.out (48 * y + 2 * x) (by omega)
          have c0 := (HB.out.cell (World.block_lt_of_cell? w _ e0)).trans e0
          rw [show off + (48 * y + 2 * x) = off + 48 * y + 2 * x by omega] at c0
          have e1 := HC.out (48 * y + 2 * x + 1) (by omega)
          have c1 := (HB.out.cell (World.block_lt_of_cell? w _ e1)).trans e1
          rw [show off + (48 * y + 2 * x + 1) = off + 48 * y + (2 * x + 1) by omega] at c1
          have e2 := HC.out (48 * y + 24 + 2 * x) (by omega)
          have c2 := (HB.out.cell (World.block_lt_of_cell? w _ e2)).trans e2
          rw [show off + (48 * y + 24 + 2 * x) = off + (48 * y + 24) + 2 * x by omega] at c2
          have e3 := HC.out (48 * y + 24 + 2 * x + 1) (by omega)
          have c3 := (HB.out.cell (World.block_lt_of_cell? w _ e3)).trans e3
          rw [show off + (48 * y + 24 + 2 * x + 1) = off + (48 * y + 24) + (2 * x + 1) by omega] at c3
          clear hlen e0 e1 e2 e3
          generalize l0.getD (48 * y + 2 * x) 0 = p0 at *
          generalize l0.getD (48 * y + 2 * x + 1) 0 = p1 at *
          generalize l0.getD (48 * y + 24 + 2 * x) 0 = p2 at *
          generalize l0.getD (48 * y + 24 + 2 * x + 1) 0 = p3 at *
          go_wp2
          go_quiet (fail)
          go_wp2_with ((with_reducible refine gate_builtin (b := .append) (xs := #[.tmp 100, .tmp 103]) rfl ?_); at_builtin; refine Kd.R_append (Kd.int .i64) (w0 := w) w.heap.size rfl (.tmp 100) (.tmp 103) 24 3 (.int .i64 0) 8 rfl Try.underlying24 info3 rfl (by decide) (by omega) u8 (vs l0 12 (12 * y + x)) (2 * (p0 + p1 + p2 + p3)) [.int .i64 (2 * (p0 + p1 + p2 + p3))] (fun _ => True) (fun _ => False) rfl rfl ?aP (fun _ hk => hk.elim) ?aF ?aO ?aB ?aS ?aL ?_; (case aP => exact rfl); (case aB => exact (by repeat (first | (with_reducible first | exact HB.out | apply below_alloc | apply pw_below_drewN | apply below_drew1) | exact HB.out))); (case aF => exact (fun _ _ => trivial)); (case aO => exact (by (with_reducible repeat (first | apply Kd.R_alloc | apply Kd.R_drewN | apply Kd.R_drew)); exact HO.out)); (case aS => exact (below_size (by repeat (first | (with_reducible first | exact HB.out | apply below_alloc | apply pw_below_drewN | apply below_drew1) | exact HB.out)))); (case aL => rw [vs_length]; omega); intro v113 w25 ho hb hg hat; have n0_ := Aside0.mk hb; have n1_ := Aside0.mk ho; clear HB HO; have HB := n0_; have HO := n1_; clear n0_ n1_; clear ho hb hg hat)
          go_roundw
          case rel =>
            have r1 := tot_succ l0 12 H (12 * y + x)
            have r2 := vs_succ l0 12 (12 * y + x)
            rw [hv] at r1 r2
            have HO' := HO.out
            rw [← r2] at HO'
            rw [← r1]
            first | exact ⟨x + 1, by omega, by go_num, rfl, ⟨HO'⟩, HB⟩ | ((repeat apply Exists.intro); exact ⟨⟨x + 1, by omega, by go_num, rfl, ⟨HO'⟩, HB⟩, rfl⟩)
          case measure => simp [intOf]; omega
        · have hx4 : x = 12 := by omega
          subst hx4
          go_wp2
          go_roundw
          case rel => exact ⟨y + 1, by omega, by go_num, by rw [show 12 * (y + 1) = 12 * y + 12 by omega], ⟨by rw [show 12 * (y + 1) = 12 * y + 12 by omega]; exact HO.out⟩, HB⟩
          case measure => simp [intOf]; omega
    · have hyH : y = H := by omega
      subst hyH
      obtain ⟨Ao, co, eo⟩ := Kd.R_slice HO.out
      subst eo
      have hvl := vs_length l0 12 (12 * y)
      have hn0 : 0 < (vs l0 12 (12 * y)).length := by omega
      obtain ⟨go, cp, ef, gb, gl, cells, hg⟩ := Kd.R_form HO.out hn0
      (injection ef with ea en ec; subst ea; subst ec; clear en)
      rw [hvl] at HO ⊢
      have hm := mean_in HY.out 12 y
      have hm0 := hm.1
      have hm1 : mean l0 12 y ≤ 4200000 := by have := hm.2; omega
      have HM : tot l0 12 y (12 * y) / (12 * (y : Int)) = mean l0 12 y := by unfold mean; congr 1
      have GB := Aside0.mk gb
      clear hm gl hg cells gb hn0 hvl
      go_wp2
      rw [HM]
      clear HM
      rw [← upd_zero] at HO
      clear ht0 ht1
      go_loopw [118] (fun v118 wr => ∃ i : Nat, i ≤ 12 * y ∧ v118 = .int .i64 i ∧ Aside0 (Kd.R (Kd.int .i64) 3 wr w.heap.size (fun _ => True) (.slice (some ⟨go, 0, none⟩) (12 * y) co) (upd l0 12 y i)) ∧ Aside0 (Below w.heap.size w wr)) (fun v118 _ => 12 * y - (intOf v118).toNat)
      case atStart => exact ⟨0, Nat.zero_le _, rfl, HO, HB⟩
      case round =>
        clear HO HB
        obtain ⟨i, hi, rfl, HO, HB⟩ := hrel
        by_cases hli : i < 12 * y
        · obtain ⟨hx0, hf0⟩ := Kd.R_celln 0 HO.out (i : Int) (by omega) (by omega)
          have hv := v2_in HY.out 12 i
          have hv0 := hv.1
          have hv1 := hv.2
          have hg : rdOf 0 (upd l0 12 y i) (i : Int) = v2 l0 12 i := by unfold rdOf; rw [Int.toNat_natCast]; exact upd_get l0 12 y i hli
          have HP := Aside0.mk (Kd.R_putg HO.out (i : Int) (v2 l0 12 i - mean l0 12 y))
          rw [hg] at hx0
          rw [Int.toNat_natCast, upd_set l0 12 y i hli] at HP
          rw [Int.toNat_natCast] at hx0 hf0
          clear hg hv
          go_wp2_with ((with_reducible refine gate_store (t := 3) (p := 127) rfl ?_); refine store_event (t := 3) (p := 127) (v := ?vo) (w1 := wr.setCell ⟨go, i, none⟩ (.int .i64 (v2 l0 12 i - mean l0 12 y))) ?hg ?ho ?hn ?hr ?_; (case ho => rfl); (case hg => rfl); (case hn => rfl); (case hr => first | (go_simp; done) | (go_simp; rfl)); intro w33 hw; have n0_ := Aside0.mk (show Kd.R (Kd.int .i64) 3 w33 w.heap.size (fun _ => True) (.slice (some ⟨go, 0, none⟩) (12 * y) co) (upd l0 12 y (i + 1)) from by rw [hw]; exact HP.out.1); have n1_ := Aside0.mk (show Below w.heap.size w w33 from by rw [hw]; exact below_set HB.out GB.out); clear HO HB HP hw hx0 hf0; have HO := n0_; have HB := n1_; clear n0_ n1_)
          go_roundw
          case rel => first | exact ⟨i + 1, by omega, by go_num, HO, HB⟩ | ((repeat apply Exists.intro); exact ⟨⟨i + 1, by omega, by go_num, HO, HB⟩, rfl⟩)
          case measure => simp [intOf]; omega
        · have hiH : i = 12 * y := by omega
          subst hiH
          rw [upd_all] at HO
          go_wp2
          go_ret2
          exact ⟨_, rfl, HO.out, HB.out⟩

set_option maxRecDepth 100000 in
set_option maxHeartbeats 4000000 in
theorem ac_walk16 (b off c0 : Nat) (l0 : List Int) (H : Nat) (w : World) (hby : Bytes l0) (hH4 : 4 ≤ H) (hH : H ≤ 32) (hlen : l0.length = 64 * H) (hc0 : l0.length ≤ c0)
    (hcell : ∀ j, j < l0.length → w.cell? ⟨b, off + j, none⟩ = some (.int .u8 (l0.getD j 0))) (hs1 : cfl_side.f 16 = some true) (hs2 : cfl_side.f H = some true) :
    Calls Try.prog 9 #[.slice (some ⟨b, off, none⟩) l0.length c0, .int .i64 16, .int .i64 H] w fun e w' => ∃ v, e = .returned (.tuple #[v, .int .i64 0]) ∧ Kd.R (Kd.int .i64) 3 w' w.heap.size (fun _ => True) v (acs l0 16 H) ∧ Below w.heap.size w w' := by
  have S1 := Aside0.mk hs1
  have S2 := Aside0.mk hs2
  have HC := Aside0.mk hcell
  have HY := Aside0.mk hby
  have HL := Aside0.mk hlen
  have HN1 : (l0.length : Int) ≤ 64 * (H : Int) := by omega
  have HN2 : 64 * (H : Int) ≤ (l0.length : Int) := by omega
  clear hs1 hs2 hcell hby hlen
  obtain ⟨i0, hi, hz0, hz1, hz2⟩ := info_parts info3
  go_enter Try.func9, Try.ntmps9
  go_wp2_with (first | (go_at_call 22; (with_reducible refine (cfl_side.calls _ true _ S1.out).mono ?_); rintro e w' ⟨rfl, ⟨nd, rfl⟩⟩) | (go_at_call 22; (with_reducible refine (cfl_side.calls _ true _ S2.out).mono ?_); rintro e w' ⟨rfl, ⟨nd, rfl⟩⟩) | (at_make; refine wpList_make_own _ rfl _ _ 24 rfl w.heap.size 3 i0 (.int .i64 0) 1 Try.underlying24 hi hz0 hz1 .i64 .i64 _ (16 * H) rfl rfl (by omega) (by rw [hz2]; omega) (by unfold maxLen; omega) (by simp) ?_; intro w0 hown0 hgrow0))
  clear S1 S2 hz0 hz1 hz2 hi i0
  have HB := Aside0.mk (pw_below_grown (pw_below_drewN (Below.refl w.heap.size w) _) none (by simp) hgrow0 (by simp))
  have HO : Aside0 (Kd.R (Kd.int .i64) 3 w0 w.heap.size (fun _ => True) (.slice (some ⟨w.heap.size, 0, none⟩) 0 (16 * H)) (vs l0 16 0)) := ⟨⟨fun _ _ => trivial, [], hown0, Reps.none _ _⟩⟩
  clear hown0 hgrow0
  have T0 : ((16 : Int) * (H : Int) / 2) = tot l0 16 H (16 * 0) := by unfold tot vs; simp
  rw [T0]
  clear T0
  go_loopw [8, 9, 43] (fun v8 v9 v43 wr => ∃ y : Nat, y ≤ H ∧ v43 = .int .i64 y ∧ v9 = .int .i64 (tot l0 16 H (16 * y)) ∧ Aside0 (Kd.R (Kd.int .i64) 3 wr w.heap.size (fun _ => True) v8 (vs l0 16 (16 * y))) ∧ Aside0 (Below w.heap.size w wr)) (fun _ _ v43 _ => H - (intOf v43).toNat)
  case atStart => exact ⟨0, Nat.zero_le _, rfl, rfl, HO, HB⟩
  case round =>
    clear HO HB
    obtain ⟨y, hy, rfl, rfl, HO, HB⟩ := hrel
    have ht := tot_in HY.out 16 H (16 * y)
    have ht0 := ht.1
    have ht1 : tot l0 16 H (16 * y) ≤ 4200000 := by have := ht.2; omega
    clear ht
    by_cases hlt : y < H
    · go_wp2
      go_quiet (fail)
      go_wp2
      go_loopw [8, 9, 68] (fun v8 v9 v68 wr => ∃ x : Nat, x ≤ 16 ∧ v68 = .int .i64 x ∧ v9 = .int .i64 (tot l0 16 H (16 * y + x)) ∧ Aside0 (Kd.R (Kd.int .i64) 3 wr w.heap.size (fun _ => True) v8 (vs l0 16 (16 * y + x))) ∧ Aside0 (Below w.heap.size w wr)) (fun _ _ v68 _ => 16 - (intOf v68).toNat)
      case atStart => exact ⟨0, Nat.zero_le _, rfl, rfl, ⟨by (with_reducible repeat (first | apply Kd.R_alloc | apply Kd.R_drewN | apply Kd.R_drew)); exact HO.out⟩, ⟨pw_below_drewN HB.out _⟩⟩
      case round =>
        clear HO HB ht0 ht1
        obtain ⟨x, hx, rfl, rfl, HO, HB⟩ := hrel
        have ht := tot_in HY.out 16 H (16 * y + x)
        have ht0 := ht.1
        have ht1 : tot l0 16 H (16 * y + x) ≤ 4200000 := by have := ht.2; omega
        clear ht
        by_cases hlx : x < 16
        · have hv := v2_at l0 16 y x hlx
          have a0 := getD_byte HY.out (64 * y + 2 * x)
          have a1 := getD_byte HY.out (64 * y + 2 * x + 1)
          have a2 := getD_byte HY.out (64 * y + 32 + 2 * x)
          have a3 := getD_byte HY.out (64 * y + 32 + 2 * x + 1)
          have hlen := HL.out
          have e0 := HC.out (64 * y + 2 * x) (by omega)
          have c0 := (HB.out.cell (World.block_lt_of_cell? w _ e0)).trans e0
          rw [show off + (64 * y + 2 * x) = off + 64 * y + 2 * x by omega] at c0
          have e1 := HC.out (64 * y + 2 * x + 1) (by omega)
          have c1 := (HB.out.cell (World.block_lt_of_cell? w _ e1)).trans e1
          rw [show off + (64 * y + 2 * x + 1) = off + 64 * y + (2 * x + 1) by omega] at c1
          have e2 := HC.out (64 * y + 32 + 2 * x) (by omega)
          have c2 := (HB.out.cell (World.block_lt_of_cell? w _ e2)).trans e2
          rw [show off + (64 * y + 32 + 2 * x) = off + (64 * y + 32) + 2 * x by omega] at c2
          have e3 := HC.out (64 * y + 32 + 2 * x + 1) (by omega)
          have c3 := (HB.out.cell (World.block_lt_of_cell? w _ e3)).trans e3
          rw [show off + (64 * y + 32 + 2 * x + 1) = off + (64 * y + 32) + (2 * x + 1) by omega] at c3
          clear hlen e0 e1 e2 e3
          generalize l0.getD (64 * y + 2 * x) 0 = p0 at *
          generalize l0.getD (64 * y + 2 * x + 1) 0 = p1 at *
          generalize l0.getD (64 * y + 32 + 2 * x) 0 = p2 at *
          generalize l0.getD (64 * y + 32 + 2 * x + 1) 0 = p3 at *
          go_wp2
          go_quiet (fail)
          go_wp2_with ((with_reducible refine gate_builtin (b := .append) (xs := #[.tmp 100, .tmp 103]) rfl ?_); at_builtin; refine Kd.R_append (Kd.int .i64) (w0 := w) w.heap.size rfl (.tmp 100) (.tmp 103) 24 3 (.int .i64 0) 8 rfl Try.underlying24 info3 rfl (by decide) (by omega) u8 (vs l0 16 (16 * y + x)) (2 * (p0 + p1 + p2 + p3)) [.int .i64 (2 * (p0 + p1 + p2 + p3))] (fun _ => True) (fun _ => False) rfl rfl ?aP (fun _ hk => hk.elim) ?aF ?aO ?aB ?aS ?aL ?_; (case aP => exact rfl); (case aB => exact (by repeat (first | (with_reducible first | exact HB.out | apply below_alloc | apply pw_below_drewN | apply below_drew1) | exact HB.out))); (case aF => exact (fun _ _ => trivial)); (case aO => exact (by (with_reducible repeat (first | apply Kd.R_alloc | apply Kd.R_drewN | apply Kd.R_drew)); exact HO.out)); (case aS => exact (below_size (by repeat (first | (with_reducible first | exact HB.out | apply below_alloc | apply pw_below_drewN | apply below_drew1) | exact HB.out)))); (case aL => rw [vs_length]; omega); intro v113 w25 ho hb hg hat; have n0_ := Aside0.mk hb; have n1_ := Aside0.mk ho; clear HB HO; have HB := n0_; have HO := n1_; clear n0_ n1_; clear ho hb hg hat)
          go_roundw
          case rel =>
            have r1 := tot_succ l0 16 H (16 * y + x)
            have r2 := vs_succ l0 16 (16 * y + x)
            rw [hv] at r1 r2
            have HO' := HO.out
            rw [← r2] at HO'
            rw [← r1]
            first | exact ⟨x + 1, by omega, by go_num, rfl, ⟨HO'⟩, HB⟩ | ((repeat apply Exists.intro); exact ⟨⟨x + 1, by omega, by go_num, rfl, ⟨HO'⟩, HB⟩, rfl⟩)
          case measure => simp [intOf]; omega
        · have hx4 : x = 16 := by omega
          subst hx4
          go_wp2
          go_roundw
          case rel => exact ⟨y + 1, by omega, by go_num, by rw [show 16 * (y + 1) = 16 * y + 16 by omega], ⟨by rw [show 16 * (y + 1) = 16 * y + 16 by omega]; exact HO.out⟩, HB⟩
          case measure => simp [intOf]; omega
    · have hyH : y = H := by omega
      subst hyH
      obtain ⟨Ao, co, eo⟩ := Kd.R_slice HO.out
      subst eo
      have hvl := vs_length l0 16 (16 * y)
      have hn0 : 0 < (vs l0 16 (16 * y)).length := by omega
      obtain ⟨go, cp, ef, gb, gl, cells, hg⟩ := Kd.R_form HO.out hn0
      (injection ef with ea en ec; subst ea; subst ec; clear en)
      rw [hvl] at HO ⊢
      have hm := mean_in HY.out 16 y
      have hm0 := hm.1
      have hm1 : mean l0 16 y ≤ 4200000 := by have := hm.2; omega
      have HM : tot l0 16 y (16 * y) / (16 * (y : Int)) = mean l0 16 y := by unfold mean; congr 1
      have GB := Aside0.mk gb
      clear hm gl hg cells gb hn0 hvl
      go_wp2
      rw [HM]
      clear HM
      rw [← upd_zero] at HO
      clear ht0 ht1
      go_loopw [118] (fun v118 wr => ∃ i : Nat, i ≤ 16 * y ∧ v118 = .int .i64 i ∧ Aside0 (Kd.R (Kd.int .i64) 3 wr w.heap.size (fun _ => True) (.slice (some ⟨go, 0, none⟩) (16 * y) co) (upd l0 16 y i)) ∧ Aside0 (Below w.heap.size w wr)) (fun v118 _ => 16 * y - (intOf v118).toNat)
      case atStart => exact ⟨0, Nat.zero_le _, rfl, HO, HB⟩
      case round =>
        clear HO HB
        obtain ⟨i, hi, rfl, HO, HB⟩ := hrel
        by_cases hli : i < 16 * y
        · obtain ⟨hx0, hf0⟩ := Kd.R_celln 0 HO.out (i : Int) (by omega) (by omega)
          have hv := v2_in HY.out 16 i
          have hv0 := hv.1
          have hv1 := hv.2
          have hg : rdOf 0 (upd l0 16 y i) (i : Int) = v2 l0 16 i := by unfold rdOf; rw [Int.toNat_natCast]; exact upd_get l0 16 y i hli
          have HP := Aside0.mk (Kd.R_putg HO.out (i : Int) (v2 l0 16 i - mean l0 16 y))
          rw [hg] at hx0
          rw [Int.toNat_natCast, upd_set l0 16 y i hli] at HP
          rw [Int.toNat_natCast] at hx0 hf0
          clear hg hv
          go_wp2_with ((with_reducible refine gate_store (t := 3) (p := 127) rfl ?_); refine store_event (t := 3) (p := 127) (v := ?vo) (w1 := wr.setCell ⟨go, i, none⟩ (.int .i64 (v2 l0 16 i - mean l0 16 y))) ?hg ?ho ?hn ?hr ?_; (case ho => rfl); (case hg => rfl); (case hn => rfl); (case hr => first | (go_simp; done) | (go_simp; rfl)); intro w33 hw; have n0_ := Aside0.mk (show Kd.R (Kd.int .i64) 3 w33 w.heap.size (fun _ => True) (.slice (some ⟨go, 0, none⟩) (16 * y) co) (upd l0 16 y (i + 1)) from by rw [hw]; exact HP.out.1); have n1_ := Aside0.mk (show Below w.heap.size w w33 from by rw [hw]; exact below_set HB.out GB.out); clear HO HB HP hw hx0 hf0; have HO := n0_; have HB := n1_; clear n0_ n1_)
          go_roundw
          case rel => first | exact ⟨i + 1, by omega, by go_num, HO, HB⟩ | ((repeat apply Exists.intro); exact ⟨⟨i + 1, by omega, by go_num, HO, HB⟩, rfl⟩)
          case measure => simp [intOf]; omega
        · have hiH : i = 16 * y := by omega
          subst hiH
          rw [upd_all] at HO
          go_wp2
          go_ret2
          exact ⟨_, rfl, HO.out, HB.out⟩

end Go.Proofs.Ytnlhciebkcafeaa.Ac
