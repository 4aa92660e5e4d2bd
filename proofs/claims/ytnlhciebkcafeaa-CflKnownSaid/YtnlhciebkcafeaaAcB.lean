/- The walk of cfl.Ac where the block and the samples are in order, at the widths 20, 24, 28, 32: it answers what of the brightness goes into the colours. -/
import Derived.Test.YtnlhciebkcafeaaPCflAcsx1
import Derived.Test.YtnlhciebkcafeaaCf
namespace Go.Proofs.Ytnlhciebkcafeaa.Ac
open Go.RowKit Go.Proofs.Ytnlhciebkcafeaa.PCflAcs Go.Proofs.YtnlhciebkcafeaaW.PrintWords Go.Proofs.YtnlhciebkcafeaaW.PrintLast Go.Proofs.YtnlhciebkcafeaaW.PrintMore Go.Proofs.Ytnlhciebkcafeaa.Cf

set_option maxRecDepth 100000 in
set_option maxHeartbeats 4000000 in
theorem ac_walk20 (b off c0 : Nat) (l0 : List Int) (H : Nat) (w : World) (hby : Bytes l0) (hH4 : 4 ≤ H) (hH : H ≤ 32) (hlen : l0.length = 80 * H) (hc0 : l0.length ≤ c0)
    (hcell : ∀ j, j < l0.length → w.cell? ⟨b, off + j, none⟩ = some (.int .u8 (l0.getD j 0))) (hs1 : cfl_side.f 20 = some true) (hs2 : cfl_side.f H = some true) :
    Calls Try.prog 9 #[.slice (some ⟨b, off, none⟩) l0.length c0, .int .i64 20, .int .i64 H] w fun e w' => ∃ v, e = .returned (.tuple #[v, .int .i64 0]) ∧ Kd.R (Kd.int .i64) 3 w' w.heap.size (fun _ => True) v (acs l0 20 H) ∧ Below w.heap.size w w' := by
  have S1 := Aside0.mk hs1
  have S2 := Aside0.mk hs2
  have HC := Aside0.mk hcell
  have HY := Aside0.mk hby
  have HL := Aside0.mk hlen
  have HN1 : (l0.length : Int) ≤ 80 * (H : Int) := by omega
  have HN2 : 80 * (H : Int) ≤ (l0.length : Int) := by omega
  clear hs1 hs2 hcell hby hlen
  obtain ⟨i0, hi, hz0, hz1, hz2⟩ := info_parts info3
  go_enter Try.func9, Try.ntmps9
  go_wp2_with (first | (go_at_call 22; (with_reducible refine (cfl_side.calls _ true _ S1.out).mono ?_); rintro e w' ⟨rfl, ⟨nd, rfl⟩⟩) | (go_at_call 22; (with_reducible refine (cfl_side.calls _ true _ S2.out).mono ?_); rintro e w' ⟨rfl, ⟨nd, rfl⟩⟩) | (at_make; refine wpList_make_own _ rfl _ _ 24 rfl w.heap.size 3 i0 (.int .i64 0) 1 Try.underlying24 hi hz0 hz1 .i64 .i64 _ (20 * H) rfl rfl (by omega) (by rw [hz2]; omega) (by unfold maxLen; omega) (by simp) ?_; intro w0 hown0 hgrow0))
  clear S1 S2 hz0 hz1 hz2 hi i0
  have HB := Aside0.mk (pw_below_grown (pw_below_drewN (Below.refl w.heap.size w) _) none (by simp) hgrow0 (by simp))
  have HO : Aside0 (Kd.R (Kd.int .i64) 3 w0 w.heap.size (fun _ => True) (.slice (some ⟨w.heap.size, 0, none⟩) 0 (20 * H)) (vs l0 20 0)) := ⟨⟨fun _ _ => trivial, [], hown0, Reps.none _ _⟩⟩
  clear hown0 hgrow0
  have T0 : ((20 : Int) * (H : Int) / 2) = tot l0 20 H (20 * 0) := by unfold tot vs; simp
  rw [T0]
  clear T0
  go_loopw [8, 9, 43] (fun v8 v9 v43 wr => ∃ y : Nat, y ≤ H ∧ v43 = .int .i64 y ∧ v9 = .int .i64 (tot l0 20 H (20 * y)) ∧ Aside0 (Kd.R (Kd.int .i64) 3 wr w.heap.size (fun _ => True) v8 (vs l0 20 (20 * y))) ∧ Aside0 (Below w.heap.size w wr)) (fun _ _ v43 _ => H - (intOf v43).toNat)
  case atStart => exact ⟨0, Nat.zero_le _, rfl, rfl, HO, HB⟩
  case round =>
    clear HO HB
    obtain ⟨y, hy, rfl, rfl, HO, HB⟩ := hrel
    have ht := tot_in HY.out 20 H (20 * y)
    have ht0 := ht.1
    have ht1 : tot l0 20 H (20 * y) ≤ 4200000 := by have := ht.2; omega
    clear ht
    by_cases hlt : y < H
    · go_wp2
      go_quiet (fail)
      go_wp2
      go_loopw [8, 9, 68] (fun v8 v9 v68 wr => ∃ x : Nat, x ≤ 20 ∧ v68 = .int .i64 x ∧ v9 = .int .i64 (tot l0 20 H (20 * y + x)) ∧ Aside0 (Kd.R (Kd.int .i64) 3 wr w.heap.size (fun _ => True) v8 (vs l0 20 (20 * y + x))) ∧ Aside0 (Below w.heap.size w wr)) (fun _ _ v68 _ => 20 - (intOf v68).toNat)
      case atStart => exact ⟨0, Nat.zero_le _, rfl, rfl, ⟨by (with_reducible repeat (first | apply Kd.R_alloc | apply Kd.R_drewN | apply Kd.R_drew)); exact HO.out⟩, ⟨pw_below_drewN HB.out _⟩⟩
      case round =>
        clear HO HB ht0 ht1
        obtain ⟨x, hx, rfl, rfl, HO, HB⟩ := hrel
        have ht := tot_in HY.out 20 H (20 * y + x)
        have ht0 := ht.1
        have ht1 : tot l0 20 H (20 * y + x) ≤ 4200000 := by have := ht.2; omega
        clear ht
        by_cases hlx : x < 20
        · have hv := v2_at l0 20 y x hlx
          have a0 := getD_byte HY.out (80 * y + 2 * x)
          have a1 := getD_byte HY.out (80 * y + 2 * x + 1)
          have a2 := getD_byte HY.out (80 * y + 40 + 2 * x)
          have a3 := getD_byte HY.out (80 * y + 40 + 2 * x + 1)
          have hlen := HL.out
          have e0 := HC.out (80 * y + 2 * x) (by omega)
          have c0 := (HB.out.cell (World.block_lt_of_cell? w _ e0)).trans e0
          rw [show off + (80 * y + 2 * x) = off + 80 * y + 2 * x by omega] at c0
          have e1 := HC.out (80 * y + 2 * x + 1) (by omega)
          have c1 := (HB.out.cell (World.block_lt_of_cell? w _ e1)).trans e1
          rw [show off + (80 * y + 2 * x + 1) = off + 80 * y + (2 * x + 1) by omega] at c1
          have e2 := HC.out (80 * y + 40 + 2 * x) (by omega)
          have c2 := (HB.out.cell (World.block_lt_of_cell? w _ e2)).trans e2
          rw [show off + (80 * y + 40 + 2 * x) = off + (80 * y + 40) + 2 * x by omega] at c2
          have e3 := HC.out (80 * y + 40 + 2 * x + 1) (by omega)
          have c3 := (HB.out.cell (World.block_lt_of_cell? w _ e3)).trans e3
          rw [show off + (80 * y + 40 + 2 * x + 1) = off + (80 * y + 40) + (2 * x + 1) by omega] at c3
          clear hlen e0 e1 e2 e3
          generalize l0.getD (80 * y + 2 * x) 0 = p0 at *
          generalize l0.getD (80 * y + 2 * x + 1) 0 = p1 at *
          generalize l0.getD (80 * y + 40 + 2 * x) 0 = p2 at *
          generalize l0.getD (80 * y + 40 + 2 * x + 1) 0 = p3 at *
          go_wp2
          go_quiet (fail)
          go_wp2_with ((with_reducible refine gate_builtin (b := .append) (xs := #[.tmp 100, .tmp 103]) rfl ?_); at_builtin; refine Kd.R_append (Kd.int .i64) (w0 := w) w.heap.size rfl (.tmp 100) (.tmp 103) 24 3 (.int .i64 0) 8 rfl Try.underlying24 info3 rfl (by decide) (by omega) u8 (vs l0 20 (20 * y + x)) (2 * (p0 + p1 + p2 + p3)) [.int .i64 (2 * (p0 + p1 + p2 + p3))] (fun _ => True) (fun _ => False) rfl rfl ?aP (fun _ hk => hk.elim) ?aF ?aO ?aB ?aS ?aL ?_; (case aP => exact rfl); (case aB => exact (by repeat (first | (with_reducible first | exact HB.out | apply below_alloc | apply pw_below_drewN | apply below_drew1) | exact HB.out))); (case aF => exact (fun _ _ => trivial)); (case aO => exact (by (with_reducible repeat (first | apply Kd.R_alloc | apply Kd.R_drewN | apply Kd.R_drew)); exact HO.out)); (case aS => exact (below_size (by repeat (first | (with_reducible first | exact HB.out | apply below_alloc | apply pw_below_drewN | apply below_drew1) | exact HB.out)))); (case aL => rw [vs_length]; omega); intro v113 w25 ho hb hg hat; have n0_ := Aside0.mk hb; have n1_ := Aside0.mk ho; clear HB HO; have HB := n0_; have HO := n1_; clear n0_ n1_; clear ho hb hg hat)
          go_roundw
          case rel =>
            have r1 := tot_succ l0 20 H (20 * y + x)
            have r2 := vs_succ l0 20 (20 * y + x)
            rw [hv] at r1 r2
            have HO' := HO.out
            rw [← r2] at HO'
            rw [← r1]
            first | exact ⟨x + 1, by omega, by go_num, rfl, ⟨HO'⟩, HB⟩ | ((repeat apply Exists.intro); exact ⟨⟨x + 1, by omega, by go_num, rfl, ⟨HO'⟩, HB⟩, rfl⟩)
          case measure => simp [intOf]; omega
        · have hx4 : x = 20 := by omega
          subst hx4
          go_wp2
          go_roundw
          case rel => exact ⟨y + 1, by omega, by go_num, by rw [show 20 * (y + 1) = 20 * y + 20 by omega], ⟨by rw [show 20 * (y + 1) = 20 * y + 20 by omega]; exact HO.out⟩, HB⟩
          case measure => simp [intOf]; omega
    · have hyH : y = H := by omega
      subst hyH
      obtain ⟨Ao, co, eo⟩ := Kd.R_slice HO.out
      subst eo
      have hvl := vs_length l0 20 (20 * y)
      have hn0 : 0 < (vs l0 20 (20 * y)).length := by omega
      obtain ⟨go, cp, ef, gb, gl, cells, hg⟩ := Kd.R_form HO.out hn0
      (injection ef with ea en ec; subst ea; subst ec; clear en)
      rw [hvl] at HO ⊢
      have hm := mean_in HY.out 20 y
      have hm0 := hm.1
      have hm1 : mean l0 20 y ≤ 4200000 := by have := hm.2; omega
      have HM : tot l0 20 y (20 * y) / (20 * (y : Int)) = mean l0 20 y := by unfold mean; congr 1
      have GB := Aside0.mk gb
      clear hm gl hg cells gb hn0 hvl
      go_wp2
      rw [HM]
      clear HM
      rw [← upd_zero] at HO
      clear ht0 ht1
      go_loopw [118] (fun v118 wr => ∃ i : Nat, i ≤ 20 * y ∧ v118 = .int .i64 i ∧ Aside0 (Kd.R (Kd.int .i64) 3 wr w.heap.size (fun _ => True) (.slice (some ⟨go, 0, none⟩) (20 * y) co) (upd l0 20 y i)) ∧ Aside0 (Below w.heap.size w wr)) (fun v118 _ => 20 * y - (intOf v118).toNat)
      case atStart => exact ⟨0, Nat.zero_le _, rfl, HO, HB⟩
      case round =>
        clear HO HB
        obtain ⟨i, hi, rfl, HO, HB⟩ := hrel
        by_cases hli : i < 20 * y
        · obtain ⟨hx0, hf0⟩ := Kd.R_celln 0 HO.out (i : Int) (by omega) (by omega)
          have hv := v2_in HY.out 20 i
          have hv0 := hv.1
          have hv1 := hv.2
          have hg : rdOf 0 (upd l0 20 y i) (i : Int) = v2 l0 20 i := by unfold rdOf; rw [Int.toNat_natCast]; exact upd_get l0 20 y i hli
          have HP := Aside0.mk (Kd.R_putg HO.out (i : Int) (v2 l0 20 i - mean l0 20 y))
          rw [hg] at hx0
          rw [Int.toNat_natCast, upd_set l0 20 y i hli] at HP
          rw [Int.toNat_natCast] at hx0 hf0
          clear hg hv
          go_wp2_with ((with_reducible refine gate_store (t := 3) (p := 127) rfl ?_); refine store_event (t := 3) (p := 127) (v := ?vo) (w1 := wr.setCell ⟨go, i, none⟩ (.int .i64 (v2 l0 20 i - mean l0 20 y))) ?hg ?ho ?hn ?hr ?_; (case ho => rfl); (case hg => rfl); (case hn => rfl); (case hr => first | (go_simp; done) | (go_simp; rfl)); intro w33 hw; have n0_ := Aside0.mk (show Kd.R (Kd.int .i64) 3 w33 w.heap.size (fun _ => True) (.slice (some ⟨go, 0, none⟩) (20 * y) co) (upd l0 20 y (i + 1)) from by rw [hw]; exact HP.out.1); have n1_ := Aside0.mk (show Below w.heap.size w w33 from by rw [hw]; exact below_set HB.out GB.out); clear HO HB HP hw hx0 hf0; have HO := n0_; have HB := n1_; clear n0_ n1_)
          go_roundw
          case rel => first | exact ⟨i + 1, by omega, by go_num, HO, HB⟩ | ((repeat apply Exists.intro); exact ⟨⟨i + 1, by omega, by go_num, HO, HB⟩, rfl⟩)
          case measure => simp [intOf]; omega
        · have hiH : i = 20 * y := by omega
          subst hiH
          rw [upd_all] at HO
          go_wp2
          go_ret2
          exact ⟨_, rfl, HO.out, HB.out⟩

set_option maxRecDepth 100000 in
set_option maxHeartbeats 4000000 in
theorem ac_walk24 (b off c0 : Nat) (l0 : List Int) (H : Nat) (w : World) (hby : Bytes l0) (hH4 : 4 ≤ H) (hH : H ≤ 32) (hlen : l0.length = 96 * H) (hc0 : l0.length ≤ c0)
    (hcell : ∀ j, j < l0.length → w.cell? ⟨b, off + j, none⟩ = some (.int .u8 (l0.getD j 0))) (hs1 : cfl_side.f 24 = some true) (hs2 : cfl_side.f H = some true) :
    Calls Try.prog 9 #[.slice (some ⟨b, off, none⟩) l0.length c0, .int .i64 24, .int .i64 H] w fun e w' => ∃ v, e = .returned (.tuple #[v, .int .i64 0]) ∧ Kd.R (Kd.int .i64) 3 w' w.heap.size (fun _ => True) v (acs l0 24 H) ∧ Below w.heap.size w w' := by
  have S1 := Aside0.mk hs1
  have S2 := Aside0.mk hs2
  have HC := Aside0.mk hcell
  have HY := Aside0.mk hby
  have HL := Aside0.mk hlen
  have HN1 : (l0.length : Int) ≤ 96 * (H : Int) := by omega
  have HN2 : 96 * (H : Int) ≤ (l0.length : Int) := by omega
  clear hs1 hs2 hcell hby hlen
  obtain ⟨i0, hi, hz0, hz1, hz2⟩ := info_parts info3
  go_enter Try.func9, Try.ntmps9
  go_wp2_with (first | (go_at_call 22; (with_reducible refine (cfl_side.calls _ true _ S1.out).mono ?_); rintro e w' ⟨rfl, ⟨nd, rfl⟩⟩) | (go_at_call 22; (with_reducible refine (cfl_side.calls _ true _ S2.out).mono ?_); rintro e w' ⟨rfl, ⟨nd, rfl⟩⟩) | (at_make; refine wpList_make_own _ rfl _ _ 24 rfl w.heap.size 3 i0 (.int .i64 0) 1 Try.underlying24 hi hz0 hz1 .i64 .i64 _ (24 * H) rfl rfl (by omega) (by rw [hz2]; omega) (by unfold maxLen; omega) (by simp) ?_; intro w0 hown0 hgrow0))
  clear S1 S2 hz0 hz1 hz2 hi i0
  have HB := Aside0.mk (pw_below_grown (pw_below_drewN (Below.refl w.heap.size w) _) none (by simp) hgrow0 (by simp))
  have HO : Aside0 (Kd.R (Kd.int .i64) 3 w0 w.heap.size (fun _ => True) (.slice (some ⟨w.heap.size, 0, none⟩) 0 (24 * H)) (vs l0 24 0)) := ⟨⟨fun _ _ => trivial, [], hown0, Reps.none _ _⟩⟩
  clear hown0 hgrow0
  have T0 : ((24 : Int) * (H : Int) / 2) = tot l0 24 H (24 * 0) := by unfold tot vs; simp
  rw [T0]
  clear T0
  go_loopw [8, 9, 43] (fun v8 v9 v43 wr => ∃ y : Nat, y ≤ H ∧ v43 = .int .i64 y ∧ v9 = .int .i64 (tot l0 24 H (24 * y)) ∧ Aside0 (Kd.R (Kd.int .i64) 3 wr w.heap.size (fun _ => True) v8 (vs l0 24 (24 * y))) ∧ Aside0 (Below w.heap.size w wr)) (fun _ _ v43 _ => H - (intOf v43).toNat)
  case atStart => exact ⟨0, Nat.zero_le _, rfl, rfl, HO, HB⟩
  case round =>
    clear HO HB
    obtain ⟨y, hy, rfl, rfl, HO, HB⟩ := hrel
    have ht := tot_in HY.out 24 H (24 * y)
    have ht0 := ht.1
    have ht1 : tot l0 24 H (24 * y) ≤ 4200000 := by have := ht.2; omega
    clear ht
    by_cases hlt : y < H
    · go_wp2
      go_quiet (fail)
      go_wp2
      go_loopw [8, 9, 68] (fun v8 v9 v68 wr => ∃ x : Nat, x ≤ 24 ∧ v68 = .int .i64 x ∧ v9 = .int .i64 (tot l0 24 H (24 * y + x)) ∧ Aside0 (Kd.R (Kd.int .i64) 3 wr w.heap.size (fun _ => True) v8 (vs l0 24 (24 * y + x))) ∧ Aside0 (Below w.heap.size w wr)) (fun _ _ v68 _ => 24 - (intOf v68).toNat)
      case atStart => exact ⟨0, Nat.zero_le _, rfl, rfl, ⟨by (with_reducible repeat (first | apply Kd.R_alloc | apply Kd.R_drewN | apply Kd.R_drew)); exact HO.out⟩, ⟨pw_below_drewN HB.out _⟩⟩
      case round =>
        clear HO HB ht0 ht1
        obtain ⟨x, hx, rfl, rfl, HO, HB⟩ := hrel
        have ht := tot_in HY.out 24 H (24 * y + x)
        have ht0 := ht.1
        have ht1 : tot l0 24 H (24 * y + x) ≤ 4200000 := by have := ht.2; omega
        clear ht
        by_cases hlx : x < 24
        · have hv := v2_at l0 24 y x hlx
          have a0 := getD_byte HY.out (96 * y + 2 * x)
          have a1 := getD_byte HY.out (96 * y + 2 * x + 1)
          have a2 := getD_byte HY.out (96 * y + 48 + 2 * x)
          have a3 := getD_byte HY.out (96 * y + 48 + 2 * x + 1)
          have hlen := HL.out
          have e0 := HC.out (96 * y + 2 * x) (by omega)
          have c0 := (HB.out.cell (World.block_lt_of_cell? w _ e0)).trans e0
          rw [show off + (96 * y + 2 * x) = off + 96 * y + 2 * x by omega] at c0
          have e1 := HC.out (96 * y + 2 * x + 1) (by omega)
          have c1 := (HB.out.cell (World.block_lt_of_cell? w _ e1)).trans e1
          rw [show off + (96 * y + 2 * x + 1) = off + 96 * y + (2 * x + 1) by omega] at c1
          have e2 := HC.out (96 * y + 48 + 2 * x) (by omega)
          have c2 := (HB.out.cell (World.block_lt_of_cell? w _ e2)).trans e2
          rw [show off + (96 * y + 48 + 2 * x) = off + (96 * y + 48) + 2 * x by omega] at c2
          have e3 := HC.out (96 * y + 48 + 2 * x + 1) (by omega)
          have c3 := (HB.out.cell (World.block_lt_of_cell? w _ e3)).trans e3
          rw [show off + (96 * y + 48 + 2 * x + 1) = off + (96 * y + 48) + (2 * x + 1) by omega] at c3
          clear hlen e0 e1 e2 e3
          generalize l0.getD (96 * y + 2 * x) 0 = p0 at *
          generalize l0.getD (96 * y + 2 * x + 1) 0 = p1 at *
          generalize l0.getD (96 * y + 48 + 2 * x) 0 = p2 at *
          generalize l0.getD (96 * y + 48 + 2 * x + 1) 0 = p3 at *
          go_wp2
          go_quiet (fail)
          go_wp2_with ((with_reducible refine gate_builtin (b := .append) (xs := #[.tmp 100, .tmp 103]) rfl ?_); at_builtin; refine Kd.R_append (Kd.int .i64) (w0 := w) w.heap.size rfl (.tmp 100) (.tmp 103) 24 3 (.int .i64 0) 8 rfl Try.underlying24 info3 rfl (by decide) (by omega) u8 (vs l0 24 (24 * y + x)) (2 * (p0 + p1 + p2 + p3)) [.int .i64 (2 * (p0 + p1 + p2 + p3))] (fun _ => True) (fun _ => False) rfl rfl ?aP (fun _ hk => hk.elim) ?aF ?aO ?aB ?aS ?aL ?_; (case aP => exact rfl); (case aB => exact (by repeat (first | (with_reducible first | exact HB.out | apply below_alloc | apply pw_below_drewN | apply below_drew1) | exact HB.out))); (case aF => exact (fun _ _ => trivial)); (case aO => exact (by (with_reducible repeat (first | apply Kd.R_alloc | apply Kd.R_drewN | apply Kd.R_drew)); exact HO.out)); (case aS => exact (below_size (by repeat (first | (with_reducible first | exact HB.out | apply below_alloc | apply pw_below_drewN | apply below_drew1) | exact HB.out)))); (case aL => rw [vs_length]; omega); intro v113 w25 ho hb hg hat; have n0_ := Aside0.mk hb; have n1_ := Aside0.mk ho; clear HB HO; have HB := n0_; have HO := n1_; clear n0_ n1_; clear ho hb hg hat)
          go_roundw
          case rel =>
            have r1 := tot_succ l0 24 H (24 * y + x)
            have r2 := vs_succ l0 24 (24 * y + x)
            rw [hv] at r1 r2
            have HO' := HO.out
            rw [← r2] at HO'
            rw [← r1]
            first | exact ⟨x + 1, by omega, by go_num, rfl, ⟨HO'⟩, HB⟩ | ((repeat apply Exists.intro); exact ⟨⟨x + 1, by omega, by go_num, rfl, ⟨HO'⟩, HB⟩, rfl⟩)
          case measure => simp [intOf]; omega
        · have hx4 : x = 24 := by omega
          subst hx4
          go_wp2
          go_roundw
          case rel => exact ⟨y + 1, by omega, by go_num, by rw [show 24 * (y + 1) = 24 * y + 24 by omega], ⟨by rw [show 24 * (y + 1) = 24 * y + 24 by omega]; exact HO.out⟩, HB⟩
          case measure => simp [intOf]; omega
    · have hyH : y = H := by omega
      subst hyH
      obtain ⟨Ao, co, eo⟩ := Kd.R_slice HO.out
      subst eo
      have hvl := vs_length l0 24 (24 * y)
      have hn0 : 0 < (vs l0 24 (24 * y)).length := by omega
      obtain ⟨go, cp, ef, gb, gl, cells, hg⟩ := Kd.R_form HO.out hn0
      (injection ef with ea en ec; subst ea; subst ec; clear en)
      rw [hvl] at HO ⊢
      have hm := mean_in HY.out 24 y
      have hm0 := hm.1
      have hm1 : mean l0 24 y ≤ 4200000 := by have := hm.2; omega
      have HM : tot l0 24 y (24 * y) / (24 * (y : Int)) = mean l0 24 y := by unfold mean; congr 1
      have GB := Aside0.mk gb
      clear hm gl hg cells gb hn0 hvl
      go_wp2
      rw [HM]
      clear HM
      rw [← upd_zero] at HO
      clear ht0 ht1
      go_loopw [118] (fun v118 wr => ∃ i : Nat, i ≤ 24 * y ∧ v118 = .int .i64 i ∧ Aside0 (Kd.R (Kd.int .i64) 3 wr w.heap.size (fun _ => True) (.slice (some ⟨go, 0, none⟩) (24 * y) co) (upd l0 24 y i)) ∧ Aside0 (Below w.heap.size w wr)) (fun v118 _ => 24 * y - (intOf v118).toNat)
      case atStart => exact ⟨0, Nat.zero_le _, rfl, HO, HB⟩
      case round =>
        clear HO HB
        obtain ⟨i, hi, rfl, HO, HB⟩ := hrel
        by_cases hli : i < 24 * y
        · obtain ⟨hx0, hf0⟩ := Kd.R_celln 0 HO.out (i : Int) (by omega) (by omega)
          have hv := v2_in HY.out 24 i
          have hv0 := hv.1
          have hv1 := hv.2
          have hg : rdOf 0 (upd l0 24 y i) (i : Int) = v2 l0 24 i := by unfold rdOf; rw [Int.toNat_natCast]; exact upd_get l0 24 y i hli
          have HP := Aside0.mk (Kd.R_putg HO.out (i : Int) (v2 l0 24 i - mean l0 24 y))
          rw [hg] at hx0
          rw [Int.toNat_natCast, upd_set l0 24 y i hli] at HP
          rw [Int.toNat_natCast] at hx0 hf0
          clear hg hv
          go_wp2_with ((with_reducible refine gate_store (t := 3) (p := 127) rfl ?_); refine store_event (t := 3) (p := 127) (v := ?vo) (w1 := wr.setCell ⟨go, i, none⟩ (.int .i64 (v2 l0 24 i - mean l0 24 y))) ?hg ?ho ?hn ?hr ?_; (case ho => rfl); (case hg => rfl); (case hn => rfl); (case hr => first | (go_simp; done) | (go_simp; rfl)); intro w33 hw; have n0_ := Aside0.mk (show Kd.R (Kd.int .i64) 3 w33 w.heap.size (fun _ => True) (.slice (some ⟨go, 0, none⟩) (24 * y) co) (upd l0 24 y (i + 1)) from by rw [hw]; exact HP.out.1); have n1_ := Aside0.mk (show Below w.heap.size w w33 from by rw [hw]; exact below_set HB.out GB.out); clear HO HB HP hw hx0 hf0; have HO := n0_; have HB := n1_; clear n0_ n1_)
          go_roundw
          case rel => first | exact ⟨i + 1, by omega, by go_num, HO, HB⟩ | ((repeat apply Exists.intro); exact ⟨⟨i + 1, by omega, by go_num, HO, HB⟩, rfl⟩)
          case measure => simp [intOf]; omega
        · have hiH : i = 24 * y := by omega
          subst hiH
          rw [upd_all] at HO
          go_wp2
          go_ret2
          exact ⟨_, rfl, HO.out, HB.out⟩

set_option maxRecDepth 100000 in
set_option maxHeartbeats 4000000 in
theorem ac_walk28 (b off c0 : Nat) (l0 : List Int) (H : Nat) (w : World) (hby : Bytes l0) (hH4 : 4 ≤ H) (hH : H ≤ 32) (hlen : l0.length = 112 * H) (hc0 : l0.length ≤ c0)
    (hcell : ∀ j, j < l0.length → w.cell? ⟨b, off + j, none⟩ = some (.int .u8 (l0.getD j 0))) (hs1 : cfl_side.f 28 = some true) (hs2 : cfl_side.f H = some true) :
    Calls Try.prog 9 #[.slice (some ⟨b, off, none⟩) l0.length c0, .int .i64 28, .int .i64 H] w fun e w' => ∃ v, e = .returned (.tuple #[v, .int .i64 0]) ∧ Kd.R (Kd.int .i64) 3 w' w.heap.size (fun _ => True) v (acs l0 28 H) ∧ Below w.heap.size w w' := by
  have S1 := Aside0.mk hs1
  have S2 := Aside0.mk hs2
  have HC := Aside0.mk hcell
  have HY := Aside0.mk hby
  have HL := Aside0.mk hlen
  have HN1 : (l0.length : Int) ≤ 112 * (H : Int) := by omega
  have HN2 : 112 * (H : Int) ≤ (l0.length : Int) := by omega
  clear hs1 hs2 hcell hby hlen
  obtain ⟨i0, hi, hz0, hz1, hz2⟩ := info_parts info3
  go_enter Try.func9, Try.ntmps9
  go_wp2_with (first | (go_at_call 22; (with_reducible refine (cfl_side.calls _ true _ S1.out).mono ?_); rintro e w' ⟨rfl, ⟨nd, rfl⟩⟩) | (go_at_call 22; (with_reducible refine (cfl_side.calls _ true _ S2.out).mono ?_); rintro e w' ⟨rfl, ⟨nd, rfl⟩⟩) | (at_make; refine wpList_make_own _ rfl _ _ 24 rfl w.heap.size 3 i0 (.int .i64 0) 1 Try.underlying24 hi hz0 hz1 .i64 .i64 _ (28 * H) rfl rfl (by omega) (by rw [hz2]; omega) (by unfold maxLen; omega) (by simp) ?_; intro w0 hown0 hgrow0))
  clear S1 S2 hz0 hz1 hz2 hi i0
  have HB := Aside0.mk (pw_below_grown (pw_below_drewN (Below.refl w.heap.size w) _) none (by simp) hgrow0 (by simp))
  have HO : Aside0 (Kd.R (Kd.int .i64) 3 w0 w.heap.size (fun _ => True) (.slice (some ⟨w.heap.size, 0, none⟩) 0 (28 * H)) (vs l0 28 0)) := ⟨⟨fun _ _ => trivial, [], hown0, Reps.none _ _⟩⟩
  clear hown0 hgrow0
  have T0 : ((28 : Int) * (H : Int) / 2) = tot l0 28 H (28 * 0) := by unfold tot vs; simp
  rw [T0]
  clear T0
  go_loopw [8, 9, 43] (fun v8 v9 v43 wr => ∃ y : Nat, y ≤ H ∧ v43 = .int .i64 y ∧ v9 = .int .i64 (tot l0 28 H (28 * y)) ∧ Aside0 (Kd.R (Kd.int .i64) 3 wr w.heap.size (fun _ => True) v8 (vs l0 28 (28 * y))) ∧ Aside0 (Below w.heap.size w wr)) (fun _ _ v43 _ => H - (intOf v43).toNat)
  case atStart => exact ⟨0, Nat.zero_le _, rfl, rfl, HO, HB⟩
  case round =>
    clear HO HB
    obtain ⟨y, hy, rfl, rfl, HO, HB⟩ := hrel
    have ht := tot_in HY.out 28 H (28 * y)
    have ht0 := ht.1
    have ht1 : tot l0 28 H (28 * y) ≤ 4200000 := by have := ht.2; omega
    clear ht
    by_cases hlt : y < H
    · go_wp2
      go_quiet (fail)
      go_wp2
      go_loopw [8, 9, 68] (fun v8 v9 v68 wr => ∃ x : Nat, x ≤ 28 ∧ v68 = .int .i64 x ∧ v9 = .int .i64 (tot l0 28 H (28 * y + x)) ∧ Aside0 (Kd.R (Kd.int .i64) 3 wr w.heap.size (fun _ => True) v8 (vs l0 28 (28 * y + x))) ∧ Aside0 (Below w.heap.size w wr)) (fun _ _ v68 _ => 28 - (intOf v68).toNat)
      case atStart => exact ⟨0, Nat.zero_le _, rfl, rfl, ⟨by (with_reducible repeat (first | apply Kd.R_alloc | apply Kd.R_drewN | apply Kd.R_drew)); exact HO.out⟩, ⟨pw_below_drewN HB.out _⟩⟩
      case round =>
        clear HO HB ht0 ht1
        obtain ⟨x, hx, rfl, rfl, HO, HB⟩ := hrel
        have ht := tot_in HY.out 28 H (28 * y + x)
        have ht0 := ht.1
        have ht1 : tot l0 28 H (28 * y + x) ≤ 4200000 := by have := ht.2; omega
        clear ht
        by_cases hlx : x < 28
        · have hv := v2_at l0 28 y x hlx
          have a0 := getD_byte HY.out (112 * y + 2 * x)
          have a1 := getD_byte HY.out (112 * y + 2 * x + 1)
          have a2 := getD_byte HY.out (112 * y + 56 + 2 * x)
          have a3 := getD_byte HY.out (112 * y + 56 + 2 * x + 1)
          have hlen := HL.out
          have e0 := HC.out (112 * y + 2 * x) (by omega)
          have c0 := (HB.out.cell (World.block_lt_of_cell? w _ e0)).trans e0
          rw [show off + (112 * y + 2 * x) = off + 112 * y + 2 * x by omega] at c0
          have e1 := HC.out (112 * y + 2 * x + 1) (by omega)
          have c1 := (HB.out.cell (World.block_lt_of_cell? w _ e1)).trans e1
          rw [show off + (112 * y + 2 * x + 1) = off + 112 * y + (2 * x + 1) by omega] at c1
          have e2 := HC.out (112 * y + 56 + 2 * x) (by omega)
          have c2 := (HB.out.cell (World.block_lt_of_cell? w _ e2)).trans e2
          rw [show off + (112 * y + 56 + 2 * x) = off + (112 * y + 56) + 2 * x by omega] at c2
          have e3 := HC.out (112 * y + 56 + 2 * x + 1) (by omega)
          have c3 := (HB.out.cell (World.block_lt_of_cell? w _ e3)).trans e3
          rw [show off + (112 * y + 56 + 2 * x + 1) = off + (112 * y + 56) + (2 * x + 1) by omega] at c3
          clear hlen e0 e1 e2 e3
          generalize l0.getD (112 * y + 2 * x) 0 = p0 at *
          generalize l0.getD (112 * y + 2 * x + 1) 0 = p1 at *
          generalize l0.getD (112 * y + 56 + 2 * x) 0 = p2 at *
          generalize l0.getD (112 * y + 56 + 2 * x + 1) 0 = p3 at *
          go_wp2
          go_quiet (fail)
          go_wp2_with ((with_reducible refine gate_builtin (b := .append) (xs := #[.tmp 100, .tmp 103]) rfl ?_); at_builtin; refine Kd.R_append (Kd.int .i64) (w0 := w) w.heap.size rfl (.tmp 100) (.tmp 103) 24 3 (.int .i64 0) 8 rfl Try.underlying24 info3 rfl (by decide) (by omega) u8 (vs l0 28 (28 * y + x)) (2 * (p0 + p1 + p2 + p3)) [.int .i64 (2 * (p0 + p1 + p2 + p3))] (fun _ => True) (fun _ => False) rfl rfl ?aP (fun _ hk => hk.elim) ?aF ?aO ?aB ?aS ?aL ?_; (case aP => exact rfl); (case aB => exact (by repeat (first | (with_reducible first | exact HB.out | apply below_alloc | apply pw_below_drewN | apply below_drew1) | exact HB.out))); (case aF => exact (fun _ _ => trivial)); (case aO => exact (by (with_reducible repeat (first | apply Kd.R_alloc | apply Kd.R_drewN | apply Kd.R_drew)); exact HO.out)); (case aS => exact (below_size (by repeat (first | (with_reducible first | exact HB.out | apply below_alloc | apply pw_below_drewN | apply below_drew1) | exact HB.out)))); (case aL => rw [vs_length]; omega); intro v113 w25 ho hb hg hat; have n0_ := Aside0.mk hb; have n1_ := Aside0.mk ho; clear HB HO; have HB := n0_; have HO := n1_; clear n0_ n1_; clear ho hb hg hat)
          go_roundw
          case rel =>
            have r1 := tot_succ l0 28 H (28 * y + x)
            have r2 := vs_succ l0 28 (28 * y + x)
            rw [hv] at r1 r2
            have HO' := HO.out
            rw [← r2] at HO'
            rw [← r1]
            first | exact ⟨x + 1, by omega, by go_num, rfl, ⟨HO'⟩, HB⟩ | ((repeat apply Exists.intro); exact ⟨⟨x + 1, by omega, by go_num, rfl, ⟨HO'⟩, HB⟩, rfl⟩)
          case measure => simp [intOf]; omega
        · have hx4 : x = 28 := by omega
          subst hx4
          go_wp2
          go_roundw
          case rel => exact ⟨y + 1, by omega, by go_num, by rw [show 28 * (y + 1) = 28 * y + 28 by omega], ⟨by rw [show 28 * (y + 1) = 28 * y + 28 by omega]; exact HO.out⟩, HB⟩
          case measure => simp [intOf]; omega
    · have hyH : y = H := by omega
      subst hyH
      obtain ⟨Ao, co, eo⟩ := Kd.R_slice HO.out
      subst eo
      have hvl := vs_length l0 28 (28 * y)
      have hn0 : 0 < (vs l0 28 (28 * y)).length := by omega
      obtain ⟨go, cp, ef, gb, gl, cells, hg⟩ := Kd.R_form HO.out hn0
      (injection ef with ea en ec; subst ea; subst ec; clear en)
      rw [hvl] at HO ⊢
      have hm := mean_in HY.out 28 y
      have hm0 := hm.1
      have hm1 : mean l0 28 y ≤ 4200000 := by have := hm.2; omega
      have HM : tot l0 28 y (28 * y) / (28 * (y : Int)) = mean l0 28 y := by unfold mean; congr 1
      have GB := Aside0.mk gb
      clear hm gl hg cells gb hn0 hvl
      go_wp2
      rw [HM]
      clear HM
      rw [← upd_zero] at HO
      clear ht0 ht1
      go_loopw [118] (fun v118 wr => ∃ i : Nat, i ≤ 28 * y ∧ v118 = .int .i64 i ∧ Aside0 (Kd.R (Kd.int .i64) 3 wr w.heap.size (fun _ => True) (.slice (some ⟨go, 0, none⟩) (28 * y) co) (upd l0 28 y i)) ∧ Aside0 (Below w.heap.size w wr)) (fun v118 _ => 28 * y - (intOf v118).toNat)
      case atStart => exact ⟨0, Nat.zero_le _, rfl, HO, HB⟩
      case round =>
        clear HO HB
        obtain ⟨i, hi, rfl, HO, HB⟩ := hrel
        by_cases hli : i < 28 * y
        · obtain ⟨hx0, hf0⟩ := Kd.R_celln 0 HO.out (i : Int) (by omega) (by omega)
          have hv := v2_in HY.out 28 i
          have hv0 := hv.1
          have hv1 := hv.2
          have hg : rdOf 0 (upd l0 28 y i) (i : Int) = v2 l0 28 i := by unfold rdOf; rw [Int.toNat_natCast]; exact upd_get l0 28 y i hli
          have HP := Aside0.mk (Kd.R_putg HO.out (i : Int) (v2 l0 28 i - mean l0 28 y))
          rw [hg] at hx0
          rw [Int.toNat_natCast, upd_set l0 28 y i hli] at HP
          rw [Int.toNat_natCast] at hx0 hf0
          clear hg hv
          go_wp2_with ((with_reducible refine gate_store (t := 3) (p := 127) rfl ?_); refine store_event (t := 3) (p := 127) (v := ?vo) (w1 := wr.setCell ⟨go, i, none⟩ (.int .i64 (v2 l0 28 i - mean l0 28 y))) ?hg ?ho ?hn ?hr ?_; (case ho => rfl); (case hg => rfl); (case hn => rfl); (case hr => first | (go_simp; done) | (go_simp; rfl)); intro w33 hw; have n0_ := Aside0.mk (show Kd.R (Kd.int .i64) 3 w33 w.heap.size (fun _ => True) (.slice (some ⟨go, 0, none⟩) (28 * y) co) (upd l0 28 y (i + 1)) from by rw [hw]; exact HP.out.1); have n1_ := Aside0.mk (show Below w.heap.size w w33 from by rw [hw]; exact below_set HB.out GB.out); clear HO HB HP hw hx0 hf0; have HO := n0_; have HB := n1_; clear n0_ n1_)
          go_roundw
          case rel => first | exact ⟨i + 1, by omega, by go_num, HO, HB⟩ | ((repeat apply Exists.intro); exact ⟨⟨i + 1, by omega, by go_num, HO, HB⟩, rfl⟩)
          case measure => simp [intOf]; omega
        · have hiH : i = 28 * y := by omega
          subst hiH
          rw [upd_all] at HO
          go_wp2
          go_ret2
          exact ⟨_, rfl, HO.out, HB.out⟩

set_option maxRecDepth 100000 in
set_option maxHeartbeats 4000000 in
theorem ac_walk32 (b off c0 : Nat) (l0 : List Int) (H : Nat) (w : World) (hby : Bytes l0) (hH4 : 4 ≤ H) (hH : H ≤ 32) (hlen : l0.length = 128 * H) (hc0 : l0.length ≤ c0)
    (hcell : ∀ j, j < l0.length → w.cell? ⟨b, off + j, none⟩ = some (.int .u8 (l0.getD j 0))) (hs1 : cfl_side.f 32 = some true) (hs2 : cfl_side.f H = some true) :
    Calls Try.prog 9 #[.slice (some ⟨b, off, none⟩) l0.length c0, .int .i64 32, .int .i64 H] w fun e w' => ∃ v, e = .returned (.tuple #[v, .int .i64 0]) ∧ Kd.R (Kd.int .i64) 3 w' w.heap.size (fun _ => True) v (acs l0 32 H) ∧ Below w.heap.size w w' := by
  have S1 := Aside0.mk hs1
  have S2 := Aside0.mk hs2
  have HC := Aside0.mk hcell
  have HY := Aside0.mk hby
  have HL := Aside0.mk hlen
  have HN1 : (l0.length : Int) ≤ 128 * (H : Int) := by omega
  have HN2 : 128 * (H : Int) ≤ (l0.length : Int) := by omega
  clear hs1 hs2 hcell hby hlen
  obtain ⟨i0, hi, hz0, hz1, hz2⟩ := info_parts info3
  go_enter Try.func9, Try.ntmps9
  go_wp2_with (first | (go_at_call 22; (with_reducible refine (cfl_side.calls _ true _ S1.out).mono ?_); rintro e w' ⟨rfl, ⟨nd, rfl⟩⟩) | (go_at_call 22; (with_reducible refine (cfl_side.calls _ true _ S2.out).mono ?_); rintro e w' ⟨rfl, ⟨nd, rfl⟩⟩) | (at_make; refine wpList_make_own _ rfl _ _ 24 rfl w.heap.size 3 i0 (.int .i64 0) 1 Try.underlying24 hi hz0 hz1 .i64 .i64 _ (32 * H) rfl rfl (by omega) (by rw [hz2]; omega) (by unfold maxLen; omega) (by simp) ?_; intro w0 hown0 hgrow0))
  clear S1 S2 hz0 hz1 hz2 hi i0
  have HB := Aside0.mk (pw_below_grown (pw_below_drewN (Below.refl w.heap.size w) _) none (by simp) hgrow0 (by simp))
  have HO : Aside0 (Kd.R (Kd.int .i64) 3 w0 w.heap.size (fun _ => True) (.slice (some ⟨w.heap.size, 0, none⟩) 0 (32 * H)) (vs l0 32 0)) := ⟨⟨fun _ _ => trivial, [], hown0, Reps.none _ _⟩⟩
  clear hown0 hgrow0
  have T0 : ((32 : Int) * (H : Int) / 2) = tot l0 32 H (32 * 0) := by unfold tot vs; simp
  rw [T0]
  clear T0
  go_loopw [8, 9, 43] (fun v8 v9 v43 wr => ∃ y : Nat, y ≤ H ∧ v43 = .int .i64 y ∧ v9 = .int .i64 (tot l0 32 H (32 * y)) ∧ Aside0 (Kd.R (Kd.int .i64) 3 wr w.heap.size (fun _ => True) v8 (vs l0 32 (32 * y))) ∧ Aside0 (Below w.heap.size w wr)) (fun _ _ v43 _ => H - (intOf v43).toNat)
  case atStart => exact ⟨0, Nat.zero_le _, rfl, rfl, HO, HB⟩
  case round =>
    clear HO HB
    obtain ⟨y, hy, rfl, rfl, HO, HB⟩ := hrel
    have ht := tot_in HY.out 32 H (32 * y)
    have ht0 := ht.1
    have ht1 : tot l0 32 H (32 * y) ≤ 4200000 := by have := ht.2; omega
    clear ht
    by_cases hlt : y < H
    · go_wp2
      go_quiet (fail)
      go_wp2
      go_loopw [8, 9, 68] (fun v8 v9 v68 wr => ∃ x : Nat, x ≤ 32 ∧ v68 = .int .i64 x ∧ v9 = .int .i64 (tot l0 32 H (32 * y + x)) ∧ Aside0 (Kd.R (Kd.int .i64) 3 wr w.heap.size (fun _ => True) v8 (vs l0 32 (32 * y + x))) ∧ Aside0 (Below w.heap.size w wr)) (fun _ _ v68 _ => 32 - (intOf v68).toNat)
      case atStart => exact ⟨0, Nat.zero_le _, rfl, rfl, ⟨by (with_reducible repeat (first | apply Kd.R_alloc | apply Kd.R_drewN | apply Kd.R_drew)); exact HO.out⟩, ⟨pw_below_drewN HB.out _⟩⟩
      case round =>
        clear HO HB ht0 ht1
        obtain ⟨x, hx, rfl, rfl, HO, HB⟩ := hrel
        have ht := tot_in HY.out 32 H (32 * y + x)
        have ht0 := ht.1
        have ht1 : tot l0 32 H (32 * y + x) ≤ 4200000 := by have := ht.2; omega
        clear ht
        by_cases hlx : x < 32
        · have hv := v2_at l0 32 y x hlx
          have a0 := getD_byte HY.out (128 * y + 2 * x)
          have a1 := getD_byte HY.out (128 * y + 2 * x + 1)
          have a2 := getD_byte HY.out (128 * y + 64 + 2 * x)
          have a3 := getD_byte HY.out (128 * y + 64 + 2 * x + 1)
          have hlen := HL.out
          have e0 := HC.out (128 * y + 2 * x) (by omega)
          have c0 := (HB.out.cell (World.block_lt_of_cell? w _ e0)).trans e0
          rw [show off + (128 * y + 2 * x) = off + 128 * y + 2 * x by omega] at c0
          have e1 := HC.out (128 * y + 2 * x + 1) (by omega)
          have c1 := (HB.out.cell (World.block_lt_of_cell? w _ e1)).trans e1
          rw [show off + (128 * y + 2 * x + 1) = off + 128 * y + (2 * x + 1) by omega] at c1
          have e2 := HC.out (128 * y + 64 + 2 * x) (by omega)
          have c2 := (HB.out.cell (World.block_lt_of_cell? w _ e2)).trans e2
          rw [show off + (128 * y + 64 + 2 * x) = off + (128 * y + 64) + 2 * x by omega] at c2
          have e3 := HC.out (128 * y + 64 + 2 * x + 1) (by omega)
          have c3 := (HB.out.cell (World.block_lt_of_cell? w _ e3)).trans e3
          rw [show off + (128 * y + 64 + 2 * x + 1) = off + (128 * y + 64) + (2 * x + 1) by omega] at c3
          clear hlen e0 e1 e2 e3
          generalize l0.getD (128 * y + 2 * x) 0 = p0 at *
          generalize l0.getD (128 * y + 2 * x + 1) 0 = p1 at *
          generalize l0.getD (128 * y + 64 + 2 * x) 0 = p2 at *
          generalize l0.getD (128 * y + 64 + 2 * x + 1) 0 = p3 at *
          go_wp2
          go_quiet (fail)
          go_wp2_with ((with_reducible refine gate_builtin (b := .append) (xs := #[.tmp 100, .tmp 103]) rfl ?_); at_builtin; refine Kd.R_append (Kd.int .i64) (w0 := w) w.heap.size rfl (.tmp 100) (.tmp 103) 24 3 (.int .i64 0) 8 rfl Try.underlying24 info3 rfl (by decide) (by omega) u8 (vs l0 32 (32 * y + x)) (2 * (p0 + p1 + p2 + p3)) [.int .i64 (2 * (p0 + p1 + p2 + p3))] (fun _ => True) (fun _ => False) rfl rfl ?aP (fun _ hk => hk.elim) ?aF ?aO ?aB ?aS ?aL ?_; (case aP => exact rfl); (case aB => exact (by repeat (first | (with_reducible first | exact HB.out | apply below_alloc | apply pw_below_drewN | apply below_drew1) | exact HB.out))); (case aF => exact (fun _ _ => trivial)); (case aO => exact (by (with_reducible repeat (first | apply Kd.R_alloc | apply Kd.R_drewN | apply Kd.R_drew)); exact HO.out)); (case aS => exact (below_size (by repeat (first | (with_reducible first | exact HB.out | apply below_alloc | apply pw_below_drewN | apply below_drew1) | exact HB.out)))); (case aL => rw [vs_length]; omega); intro v113 w25 ho hb hg hat; have n0_ := Aside0.mk hb; have n1_ := Aside0.mk ho; clear HB HO; have HB := n0_; have HO := n1_; clear n0_ n1_; clear ho hb hg hat)
          go_roundw
          case rel =>
            have r1 := tot_succ l0 32 H (32 * y + x)
            have r2 := vs_succ l0 32 (32 * y + x)
            rw [hv] at r1 r2
            have HO' := HO.out
            rw [← r2] at HO'
            rw [← r1]
            first | exact ⟨x + 1, by omega, by go_num, rfl, ⟨HO'⟩, HB⟩ | ((repeat apply Exists.intro); exact ⟨⟨x + 1, by omega, by go_num, rfl, ⟨HO'⟩, HB⟩, rfl⟩)
          case measure => simp [intOf]; omega
        · have hx4 : x = 32 := by omega
          subst hx4
          go_wp2
          go_roundw
          case rel => exact ⟨y + 1, by omega, by go_num, by rw [show 32 * (y + 1) = 32 * y + 32 by omega], ⟨by rw [show 32 * (y + 1) = 32 * y + 32 by omega]; exact HO.out⟩, HB⟩
          case measure => simp [intOf]; omega
    · have hyH : y = H := by omega
      subst hyH
      obtain ⟨Ao, co, eo⟩ := Kd.R_slice HO.out
      subst eo
      have hvl := vs_length l0 32 (32 * y)
      have hn0 : 0 < (vs l0 32 (32 * y)).length := by omega
      obtain ⟨go, cp, ef, gb, gl, cells, hg⟩ := Kd.R_form HO.out hn0
      (injection ef with ea en ec; subst ea; subst ec; clear en)
      rw [hvl] at HO ⊢
      have hm := mean_in HY.out 32 y
      have hm0 := hm.1
      have hm1 : mean l0 32 y ≤ 4200000 := by have := hm.2; omega
      have HM : tot l0 32 y (32 * y) / (32 * (y : Int)) = mean l0 32 y := by unfold mean; congr 1
      have GB := Aside0.mk gb
      clear hm gl hg cells gb hn0 hvl
      go_wp2
      rw [HM]
      clear HM
      rw [← upd_zero] at HO
      clear ht0 ht1
      go_loopw [118] (fun v118 wr => ∃ i : Nat, i ≤ 32 * y ∧ v118 = .int .i64 i ∧ Aside0 (Kd.R (Kd.int .i64) 3 wr w.heap.size (fun _ => True) (.slice (some ⟨go, 0, none⟩) (32 * y) co) (upd l0 32 y i)) ∧ Aside0 (Below w.heap.size w wr)) (fun v118 _ => 32 * y - (intOf v118).toNat)
      case atStart => exact ⟨0, Nat.zero_le _, rfl, HO, HB⟩
      case round =>
        clear HO HB
        obtain ⟨i, hi, rfl, HO, HB⟩ := hrel
        by_cases hli : i < 32 * y
        · obtain ⟨hx0, hf0⟩ := Kd.R_celln 0 HO.out (i : Int) (by omega) (by omega)
          have hv := v2_in HY.out 32 i
          have hv0 := hv.1
          have hv1 := hv.2
          have hg : rdOf 0 (upd l0 32 y i) (i : Int) = v2 l0 32 i := by unfold rdOf; rw [Int.toNat_natCast]; exact upd_get l0 32 y i hli
          have HP := Aside0.mk (Kd.R_putg HO.out (i : Int) (v2 l0 32 i - mean l0 32 y))
          rw [hg] at hx0
          rw [Int.toNat_natCast, upd_set l0 32 y i hli] at HP
          rw [Int.toNat_natCast] at hx0 hf0
          clear hg hv
          go_wp2_with ((with_reducible refine gate_store (t := 3) (p := 127) rfl ?_); refine store_event (t := 3) (p := 127) (v := ?vo) (w1 := wr.setCell ⟨go, i, none⟩ (.int .i64 (v2 l0 32 i - mean l0 32 y))) ?hg ?ho ?hn ?hr ?_; (case ho => rfl); (case hg => rfl); (case hn => rfl); (case hr => first | (go_simp; done) | (go_simp; rfl)); intro w33 hw; have n0_ := Aside0.mk (show Kd.R (Kd.int .i64) 3 w33 w.heap.size (fun _ => True) (.slice (some ⟨go, 0, none⟩) (32 * y) co) (upd l0 32 y (i + 1)) from by rw [hw]; exact HP.out.1); have n1_ := Aside0.mk (show Below w.heap.size w w33 from by rw [hw]; exact below_set HB.out GB.out); clear HO HB HP hw hx0 hf0; have HO := n0_; have HB := n1_; clear n0_ n1_)
          go_roundw
          case rel => first | exact ⟨i + 1, by omega, by go_num, HO, HB⟩ | ((repeat apply Exists.intro); exact ⟨⟨i + 1, by omega, by go_num, HO, HB⟩, rfl⟩)
          case measure => simp [intOf]; omega
        · have hiH : i = 32 * y := by omega
          subst hiH
          rw [upd_all] at HO
          go_wp2
          go_ret2
          exact ⟨_, rfl, HO.out, HB.out⟩

end Go.Proofs.Ytnlhciebkcafeaa.Ac
