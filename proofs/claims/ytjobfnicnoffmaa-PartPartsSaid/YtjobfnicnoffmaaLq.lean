/- The walk of the law PartParts. -/
import Derived.Test.YtjobfnicnoffmaaLu
import Derived.Test.YtjobfnicnoffmaaPz
import Derived.Deep.WholeRow
import Derived.StillTailTactics
namespace Go.Proofs.Ytjobfnicnoffmaa.Lq
open Go.RowKit Go.Proofs.Ytjobfnicnoffmaa.PPartTrees Go.Proofs.YtjobfnicnoffmaaW.PrintWords Go.Proofs.YtjobfnicnoffmaaW.PrintLast Go.Proofs.YtjobfnicnoffmaaW.PrintMore Go.Proofs.Ytjobfnicnoffmaa.Pt Go.Proofs.Ytjobfnicnoffmaa.Ph Go.Proofs.Ytjobfnicnoffmaa.Li Go.Proofs.Ytjobfnicnoffmaa.Pc Go.Proofs.Ytjobfnicnoffmaa.Tr Go.Proofs.Ytjobfnicnoffmaa.Bk Go.Proofs.Ytjobfnicnoffmaa.Wk Go.Proofs.Ytjobfnicnoffmaa.Pu Go.Proofs.Ytjobfnicnoffmaa.Br Go.Proofs.Ytjobfnicnoffmaa.Lu Go.Proofs.Ytjobfnicnoffmaa.Cv Go.Proofs.Ytjobfnicnoffmaa.Pz

theorem bring_q0 (a0 : Int) (a1 : Int) (r : Int) (w : World) (h : PPartTiles.zoetroperef00_Bring.f a0 a1 = some r) :
    Calls Try.prog 12 #[.int .i64 a0, .int .i64 a1] w fun e w' => e = .returned (.int .i64 r) ∧ w' = w := by
  have H : (if a1 ≤ 0 then (some 0) else (if a1 = 0 then (none) else (if (Int.tmod a0 a1) < 0 then (some (wrap64 ((Int.tmod a0 a1) + a1))) else (some (Int.tmod a0 a1))))) = some r := h
  clear h
  by_cases c3 : a1 ≤ 0
  · rw [if_pos c3] at H
    have c3b0 : decide (a1 ≤ 0) = true := decide_eq_true c3
    clear c3
    obtain rfl := Option.some.inj H
    go_enter Try.func12, Try.ntmps12
    go_wp2
    go_ret
    exact ⟨by first | rfl | (simp; done) | (simp [*]; done), rfl⟩
  · rw [if_neg c3] at H
    have c3b0 : decide (a1 ≤ 0) = false := decide_eq_false c3
    clear c3
    by_cases c4 : a1 = 0
    · rw [if_pos c4] at H
      exact absurd H (by simp)
    · rw [if_neg c4] at H
      have c4b0 : (a1 == 0) = false := beq_eq_false_iff_ne.mpr c4
      have c4b1 : (a1 != 0) = true := bne_iff_ne.mpr c4
      by_cases c5 : (Int.tmod a0 a1) < 0
      · rw [if_pos c5] at H
        have c5b0 : decide ((Int.tmod a0 a1) < 0) = true := decide_eq_true c5
        clear c5
        obtain rfl := Option.some.inj H
        go_enter Try.func12, Try.ntmps12
        go_wp2
        go_ret
        exact ⟨by first | rfl | (simp; done) | (simp [*]; done), rfl⟩
      · rw [if_neg c5] at H
        have c5b0 : decide ((Int.tmod a0 a1) < 0) = false := decide_eq_false c5
        clear c5
        obtain rfl := Option.some.inj H
        go_enter Try.func12, Try.ntmps12
        go_wp2
        go_ret
        exact ⟨by first | rfl | (simp; done) | (simp [*]; done), rfl⟩


theorem bring_q (a n : Int) (w : World) (hn : 0 < n) (hn' : n ≤ 100000) : Calls Try.prog 12 #[.int .i64 a, .int .i64 n] w fun e w' => e = .returned (.int .i64 (a % n)) ∧ w' = w := bring_q0 a n _ w (bring_eq' a n hn hn')

set_option maxRecDepth 100000 in
set_option maxHeartbeats 4000000 in
theorem parts_walk (r : S23) (n : Int) (w : World) :
    Calls Try.prog 8 #[aggS r, .int .i64 n] w fun e w' => e = .returned (.bool true) ∧ Below w.heap.size w w' := by
  obtain ⟨f0, f1, f2, f3⟩ := r
  dsimp only [aggS]
  go_enter Try.func8, Try.ntmps8
  go_wp2_with fail
  refine (works_any _).mono ?_
  rintro e w1 ⟨rfl, hb1⟩
  have hbr : w1.heap[w.heap.size]? = some (.cells #[.int .i64 f0, .int .i64 f1, .int .i64 f2, .int .i64 f3] 23 (0, 0)) := (hb1.block _ (by simp)).trans (heap_alloc_new w _)
  have HS := Aside0.mk (And.intro hbr (below_step (below_alloc (Below.refl w.heap.size w) _) hb1))
  clear hb1 hbr
  obtain ⟨m, hm⟩ : ∃ m, n % 4 = m := ⟨_, rfl⟩
  have hm4 : m = 0 ∨ m = 1 ∨ m = 2 ∨ m = 3 := by omega
  have HBQ := Aside0.mk (fun w => bring_q n 4 w (by omega) (by omega))
  rw [hm] at HBQ
  clear hm
  have HM := Aside0.mk hm4
  clear hm4
  go_upto_region 3 with fail
  go_cut [5] (fun s5 wx => (∃ k : Nat, k ≤ 3 ∧ s5 = .int .i64 (sideOf k)) ∧ Aside0 (wx.heap[w.heap.size]? = some (.cells #[.int .i64 f0, .int .i64 f1, .int .i64 f2, .int .i64 f3] 23 (0, 0)) ∧ Below w.heap.size w wx))
  case first =>
    go_wp2_with fail
    refine (HBQ.out _).mono ?_
    rintro e w2 ⟨rfl, rfl⟩
    rcases HM.out with rfl | rfl | rfl | rfl
    · go_wp2_with fail
      go_meet
      exact ⟨⟨0, by omega, rfl⟩, ⟨old HS.out.1, below_alloc HS.out.2 _⟩⟩
    · go_wp2_with fail
      go_meet
      exact ⟨⟨1, by omega, rfl⟩, ⟨old HS.out.1, below_alloc HS.out.2 _⟩⟩
    · go_wp2_with fail
      go_meet
      exact ⟨⟨2, by omega, rfl⟩, ⟨old HS.out.1, below_alloc HS.out.2 _⟩⟩
    · go_wp2_with fail
      go_meet
      exact ⟨⟨3, by omega, rfl⟩, ⟨old HS.out.1, below_alloc HS.out.2 _⟩⟩
  case rest =>
    clear HS HBQ HM
    obtain ⟨⟨k, hk, rfl⟩, HS⟩ := hcut
    obtain ⟨x0, x1, x2, x3⟩ := box_cells HS.out.1
    obtain ⟨z0, hz0⟩ : ∃ q, f0 % 129 = q := ⟨_, rfl⟩
    obtain ⟨z1, hz1⟩ : ∃ q, f1 % 129 = q := ⟨_, rfl⟩
    have b0 : 0 ≤ z0 ∧ z0 ≤ 128 := by omega
    have b1 : 0 ≤ z1 ∧ z1 ≤ 128 := by omega
    have hq0 : ∀ w, Calls Try.prog 12 #[.int .i64 f0, .int .i64 129] w fun e w'' => e = .returned (.int .i64 z0) ∧ w'' = w := fun w => by rw [← hz0]; exact bring_q f0 129 w (by omega) (by omega)
    have hq1 : ∀ w, Calls Try.prog 12 #[.int .i64 f1, .int .i64 129] w fun e w'' => e = .returned (.int .i64 z1) ∧ w'' = w := fun w => by rw [← hz1]; exact bring_q f1 129 w (by omega) (by omega)
    have HQ0 := Aside0.mk hq0
    have HQ1 := Aside0.mk hq1
    have hT := types_le hk
    obtain ⟨s8, hs8⟩ : ∃ s8 : Nat, sideOf k = 8 * (s8 : Int) ∧ 1 ≤ s8 ∧ s8 ≤ 8 := by
      rcases (show k = 0 ∨ k = 1 ∨ k = 2 ∨ k = 3 by omega) with rfl | rfl | rfl | rfl
      · exact ⟨1, by decide, by decide, by decide⟩
      · exact ⟨2, by decide, by decide, by decide⟩
      · exact ⟨4, by decide, by decide, by decide⟩
      · exact ⟨8, by decide, by decide, by decide⟩
    have hreg : IsReg k ⟨8 * z0, 8 * z1, 8 * (s8 : Int), 8 * (s8 : Int)⟩ := by
      unfold IsReg
      rw [hs8.1]
      dsimp only
      omega
    have HREG := Aside0.mk hreg
    obtain ⟨T, hTT⟩ : ∃ T : Nat, typesN (8 * (s8 : Int)) = (T : Int) ∧ 1 ≤ T ∧ T ≤ 10 := by
      rw [← hs8.1, hT]
      split
      · exact ⟨1, rfl, by omega, by omega⟩
      · split
        · exact ⟨8, rfl, by omega, by omega⟩
        · exact ⟨10, rfl, by omega, by omega⟩
    have htE : typesE (8 * (s8 : Int)) = 0 := by unfold typesE; rw [if_neg (by omega)]
    have HTT := Aside0.mk hTT.1
    have t0 := hTT.2.1
    have t1 := hTT.2.2
    have hty : ∀ w, Calls Try.prog 14 #[.int .i64 (8 * (s8 : Int))] w fun e w' => e = .returned (.tuple #[.int .i64 (T : Int), .int .i64 0]) ∧ Drawn0 w w' := fun w => by
      have h := types_any (8 * (s8 : Int)) w
      rw [hTT.1, htE] at h
      exact h
    have HTY := Aside0.mk hty
    rw [hs8.1]
    have s0 := hs8.2.1
    have s1 := hs8.2.2
    clear hz0 hz1 hq0 hq1 hT hs8 hTT htE hty hreg
    have e0 : IntKind.i64.wrap (8 * z0) = 8 * z0 := by rw [IntKind.wrap_i64]; omega
    have e1 : IntKind.i64.wrap (8 * z1) = 8 * z1 := by rw [IntKind.wrap_i64]; omega
    go_wp2_with fail
    go_still_tail 10, (by kernel_rfl)
    still_call (HQ0.out _)
    repeat still_step
    still_call (HQ1.out _)
    repeat still_step
    refine wpStill_nil ?_
    change wpList _ _ _ _ _ wc.drew
    have hb2 : Below w.heap.size w wc.drew := pw_below_drewN HS.out.2 1
    have hbr2 : wc.drew.heap[w.heap.size]? = some (.cells #[.int .i64 f0, .int .i64 f1, .int .i64 f2, .int .i64 f3] 23 (0, 0)) := HS.out.1
    obtain ⟨w2, ew2⟩ : ∃ w2, wc.drew = w2 := ⟨_, rfl⟩
    rw [ew2] at hb2 hbr2 ⊢
    have HS2 := Aside0.mk (And.intro hbr2 hb2)
    clear x0 x1 x2 x3 ew2 hb2 hbr2 HS HQ0 HQ1 e0 e1
    go_wp2_with fail
    refine (rect_any _ _ _ _ _).mono ?_
    rintro e w3 ⟨rfl, hb3⟩
    have HBR3 := Aside0.mk ((hb3.block _ (blk_lt HS2.out.1)).trans HS2.out.1)
    have HB3 := Aside0.mk (HS2.out.2.trans (hb3.mono HS2.out.2.size))
    clear hb3 HS2
    obtain ⟨x0, x1, x2, x3⟩ := box_cells HBR3.out
    have y0 := frozen_of_row w3 w.heap.size 0 _ 23 HBR3.out
    have y1 := frozen_of_row w3 w.heap.size 1 _ 23 HBR3.out
    have y2 := frozen_of_row w3 w.heap.size 2 _ 23 HBR3.out
    have y3 := frozen_of_row w3 w.heap.size 3 _ 23 HBR3.out
    go_wp2_with fail
    have hbr4 := set_row4 (.int .i64 (8 * z0)) (.int .i64 (8 * z1)) (.int .i64 (8 * (s8 : Int))) (.int .i64 (8 * (s8 : Int))) HBR3.out
    have hb4 := set_below4 (g := w.heap.size) (.int .i64 (8 * z0)) (.int .i64 (8 * z1)) (.int .i64 (8 * (s8 : Int))) (.int .i64 (8 * (s8 : Int))) HB3.out (Nat.le_refl _)
    obtain ⟨w4, ew4⟩ : ∃ w4, ((((w3.setCell ⟨w.heap.size, 0, none⟩ (.int .i64 (8 * z0))).setCell ⟨w.heap.size, 1, none⟩ (.int .i64 (8 * z1))).setCell ⟨w.heap.size, 2, none⟩ (.int .i64 (8 * (s8 : Int)))).setCell ⟨w.heap.size, 3, none⟩ (.int .i64 (8 * (s8 : Int)))) = w4 := ⟨_, rfl⟩
    rw [ew4] at hbr4 hb4 ⊢
    have HS4 := Aside0.mk (And.intro hbr4 hb4)
    clear ew4 hbr4 hb4 x0 x1 x2 x3 y0 y1 y2 y3 HBR3 HB3
    refine (HTY.out _).mono ?_
    rintro e w5 ⟨rfl, ⟨nd, rfl⟩⟩
    have hb5 : Below w.heap.size w (w4.drewN nd) := pw_below_drewN HS4.out.2 nd
    have hbr5 : (w4.drewN nd).heap[w.heap.size]? = some (.cells #[.int .i64 (8 * z0), .int .i64 (8 * z1), .int .i64 (8 * (s8 : Int)), .int .i64 (8 * (s8 : Int))] 23 (0, 0)) := HS4.out.1
    obtain ⟨w5, ew5⟩ : ∃ w5, w4.drewN nd = w5 := ⟨_, rfl⟩
    rw [ew5] at hb5 hbr5 ⊢
    have HS5 := Aside0.mk (And.intro hbr5 hb5)
    clear ew5 hbr5 hb5 HS4 HTY
    have hreg := HREG.out
    have hcu : ∀ (K : Nat) (w : World), K < T → Calls Try.prog 15 #[.agg #[.int .i64 (8 * z0), .int .i64 (8 * z1), .int .i64 (8 * (s8 : Int)), .int .i64 (8 * (s8 : Int))], .int .i64 (K : Int)] w fun e w' => ∃ v, e = .returned (.tuple #[v, .int .i64 0]) ∧ Kd.R k23 23 w' w.heap.size (fun _ => True) v (cutsL ⟨8 * z0, 8 * z1, 8 * (s8 : Int), 8 * (s8 : Int)⟩ (K : Int)) ∧ Below w.heap.size w w' := fun K w hK => by
      have h := cuts_any ⟨8 * z0, 8 * z1, 8 * (s8 : Int), 8 * (s8 : Int)⟩ (K : Int) w (by dsimp only; omega) (by dsimp only; omega)
      have ho : cutOk ⟨8 * z0, 8 * z1, 8 * (s8 : Int), 8 * (s8 : Int)⟩ (K : Int) = true := by
        unfold cutOk
        rw [hreg.regB hk]
        dsimp only
        rw [HTT.out]
        simp [hK]
      unfold cutErr cutAns at h
      rw [if_pos ho, if_pos ho] at h
      exact h
    have hcn : ∀ (w : World), Calls Try.prog 15 #[.agg #[.int .i64 (8 * z0), .int .i64 (8 * z1), .int .i64 (8 * (s8 : Int)), .int .i64 (8 * (s8 : Int))], .int .i64 (T : Int)] w fun e w' => ∃ v, e = .returned (.tuple #[v, .int .i64 2]) ∧ Below w.heap.size w w' := fun w => by
      have h := cuts_any ⟨8 * z0, 8 * z1, 8 * (s8 : Int), 8 * (s8 : Int)⟩ (T : Int) w (by dsimp only; omega) (by dsimp only; omega)
      have ho : ¬ cutOk ⟨8 * z0, 8 * z1, 8 * (s8 : Int), 8 * (s8 : Int)⟩ (T : Int) = true := by
        unfold cutOk
        dsimp only
        rw [HTT.out]
        simp
      unfold cutErr at h
      rw [if_neg ho] at h
      exact h.mono fun e w' ⟨v, e1, _, hb⟩ => ⟨v, e1, hb⟩
    have hts : ∀ (K : Nat), K < T → (∀ x ∈ cutsL ⟨8 * z0, 8 * z1, 8 * (s8 : Int), 8 * (s8 : Int)⟩ (K : Int), GoodR ⟨8 * z0, 8 * z1, 8 * (s8 : Int), 8 * (s8 : Int)⟩ x) := fun K hK x hx =>
      sub_good (by dsimp only; omega) (parts_sub hk hreg (K : Int) (by omega) (by dsimp only; rw [HTT.out]; omega) x hx)
    have htt : ∀ (K j : Nat), j < 64 → cnt ⟨8 * z0, 8 * z1, 8 * (s8 : Int), 8 * (s8 : Int)⟩ (cutsL ⟨8 * z0, 8 * z1, 8 * (s8 : Int), 8 * (s8 : Int)⟩ (K : Int)) j = if (j : Int) % 8 < s8 ∧ (j : Int) / 8 < s8 then 1 else 0 := fun K j hj => by
      rw [cnt_tot, parts_tot hk hreg]
      unfold one
      dsimp only
      have e1 : ((j % 8 : Nat) : Int) = (j : Int) % 8 := by omega
      have e2 : ((j / 8 : Nat) : Int) = (j : Int) / 8 := by omega
      rw [e1, e2]
      by_cases h : (j : Int) % 8 < s8 ∧ (j : Int) / 8 < s8
      · rw [if_pos h, if_pos (by unfold In; dsimp only; omega)]
      · rw [if_neg h, if_neg (by unfold In; dsimp only; omega)]
    have hln : ∀ K : Int, (cutsL ⟨8 * z0, 8 * z1, 8 * (s8 : Int), 8 * (s8 : Int)⟩ K).length ≤ 1000 := fun K => by
      unfold cutsL
      split
      · simp
      · have := quads_len K
        simp
        omega
    have HCU := Aside0.mk hcu
    have HCN := Aside0.mk hcn
    have HTS := Aside0.mk hts
    have HT1 := Aside0.mk htt
    have HLN := Aside0.mk hln
    clear hcu hcn hts htt hln hreg HREG HTT
    go_wp2_with fail
    go_loopw [8] (fun v8 wr => ∃ K : Nat, K ≤ T ∧ v8 = .int .i64 K ∧ Aside0 (wr.heap[w.heap.size]? = some (.cells #[.int .i64 (8 * z0), .int .i64 (8 * z1), .int .i64 (8 * (s8 : Int)), .int .i64 (8 * (s8 : Int))] 23 (0, 0)) ∧ Below w.heap.size w wr)) (fun v8 _ => T - (intOf v8).toNat)
    case atStart => exact ⟨0, Nat.zero_le _, rfl, HS5⟩
    case round =>
      clear HS5
      obtain ⟨K, hK, rfl, HS⟩ := hrel
      by_cases hlt : K < T
      · obtain ⟨x0, x1, x2, x3⟩ := box_cells HS.out.1
        have HCK := Aside0.mk (fun w => HCU.out K w hlt)
        have HGK := Aside0.mk (HTS.out K hlt)
        have HTK := Aside0.mk (HT1.out K)
        have HLK := Aside0.mk (HLN.out (K : Int))
        obtain ⟨L, hL⟩ : ∃ L, cutsL ⟨8 * z0, 8 * z1, 8 * (s8 : Int), 8 * (s8 : Int)⟩ (K : Int) = L := ⟨_, rfl⟩
        rw [hL] at HCK HGK HTK HLK
        clear hL
        go_wp2_with fail
        refine (HCK.out _).mono ?_
        rintro e w6 ⟨v6, rfl, hr6, hb6⟩
        obtain ⟨A6, c6, rfl, hl6, hC6⟩ := Kd.R_reads hr6
        have HBR6 := Aside0.mk ((hb6.block _ (blk_lt HS.out.1)).trans HS.out.1)
        have HB6 := Aside0.mk (HS.out.2.trans (hb6.mono HS.out.2.size))
        have HCOV := Aside0.mk (cover_any ⟨8 * z0, 8 * z1, 8 * (s8 : Int), 8 * (s8 : Int)⟩ A6 c6 L w6 hC6 HGK.out (by dsimp only; omega) HLK.out)
        clear hr6 hb6 hC6 x0 x1 x2 x3 HS HCK HGK
        obtain ⟨x0, x1, x2, x3⟩ := box_cells HBR6.out
        go_wp2_with fail
        refine HCOV.out.mono ?_
        rintro e w7 ⟨rfl, hb7⟩
        have hbr7 := (hb7.block _ (blk_lt HBR6.out)).trans HBR6.out
        have HB7 := Aside0.mk (HB6.out.trans (hb7.mono HB6.out.size))
        obtain ⟨F, hF⟩ : ∃ F, cnt ⟨8 * z0, 8 * z1, 8 * (s8 : Int), 8 * (s8 : Int)⟩ L = F := ⟨_, rfl⟩
        rw [hF] at HTK ⊢
        have hz := heap_alloc_new w7 (.cells (#[.int .i64 0, .int .i64 0, .int .i64 0, .int .i64 0, .int .i64 0, .int .i64 0, .int .i64 0, .int .i64 0, .int .i64 0, .int .i64 0, .int .i64 0, .int .i64 0, .int .i64 0, .int .i64 0, .int .i64 0, .int .i64 0, .int .i64 0, .int .i64 0, .int .i64 0, .int .i64 0, .int .i64 0, .int .i64 0, .int .i64 0, .int .i64 0, .int .i64 0, .int .i64 0, .int .i64 0, .int .i64 0, .int .i64 0, .int .i64 0, .int .i64 0, .int .i64 0, .int .i64 0, .int .i64 0, .int .i64 0, .int .i64 0, .int .i64 0, .int .i64 0, .int .i64 0, .int .i64 0, .int .i64 0, .int .i64 0, .int .i64 0, .int .i64 0, .int .i64 0, .int .i64 0, .int .i64 0, .int .i64 0, .int .i64 0, .int .i64 0, .int .i64 0, .int .i64 0, .int .i64 0, .int .i64 0, .int .i64 0, .int .i64 0, .int .i64 0, .int .i64 0, .int .i64 0, .int .i64 0, .int .i64 0, .int .i64 0, .int .i64 0, .int .i64 0]) 46)
        have HZ := Aside0.mk hz
        have HI := Aside0.mk (show (Try.prog.info? 46).map (·.size) = some (arrF F).size by rw [arrF_size]; exact info46)
        have HSZ := Aside0.mk (show (#[.int .i64 0, .int .i64 0, .int .i64 0, .int .i64 0, .int .i64 0, .int .i64 0, .int .i64 0, .int .i64 0, .int .i64 0, .int .i64 0, .int .i64 0, .int .i64 0, .int .i64 0, .int .i64 0, .int .i64 0, .int .i64 0, .int .i64 0, .int .i64 0, .int .i64 0, .int .i64 0, .int .i64 0, .int .i64 0, .int .i64 0, .int .i64 0, .int .i64 0, .int .i64 0, .int .i64 0, .int .i64 0, .int .i64 0, .int .i64 0, .int .i64 0, .int .i64 0, .int .i64 0, .int .i64 0, .int .i64 0, .int .i64 0, .int .i64 0, .int .i64 0, .int .i64 0, .int .i64 0, .int .i64 0, .int .i64 0, .int .i64 0, .int .i64 0, .int .i64 0, .int .i64 0, .int .i64 0, .int .i64 0, .int .i64 0, .int .i64 0, .int .i64 0, .int .i64 0, .int .i64 0, .int .i64 0, .int .i64 0, .int .i64 0, .int .i64 0, .int .i64 0, .int .i64 0, .int .i64 0, .int .i64 0, .int .i64 0, .int .i64 0, .int .i64 0] : Array Value).size = (arrF F).size by rw [arrF_size]; rfl)
        have HON := Aside0.mk (arrF_one F)
        have HBR7 := Aside0.mk hbr7
        clear x0 x1 x2 x3 hb7 hbr7 hF hz HBR6 HB6 HCOV HLK
        go_wp2_with (with_reducible refine wpList_store_row rfl 46 (.tmp 11) (.tmp 65) rfl _ _ rfl rfl 46 _ HZ.out HI.out HSZ.out HON.out ?_)
        rw [World.setRow_alloc_new]
        have h8 := heap_alloc_new w7 (.cells (arrF F) 46)
        have hbr8 := old (o := .cells (arrF F) 46) HBR7.out
        have hb8 := below_alloc HB7.out (.cells (arrF F) 46)
        obtain ⟨w8, ew8⟩ : ∃ w8, w7.alloc (.cells (arrF F) 46) = w8 := ⟨_, rfl⟩
        obtain ⟨g8, eg8⟩ : ∃ g8, w7.heap.size = g8 := ⟨_, rfl⟩
        rw [ew8] at h8 hbr8 hb8
        rw [eg8] at h8
        rw [ew8, eg8]
        have HS := Aside0.mk (And.intro hbr8 (And.intro h8 hb8))
        clear ew8 eg8 hbr8 h8 hb8 HZ HI HSZ HON HBR7 HB7
        go_loopw [13] (fun v13 wr => ∃ i : Nat, i ≤ 64 ∧ v13 = .int .i64 i ∧ Aside0 (wr.heap[w.heap.size]? = some (.cells #[.int .i64 (8 * z0), .int .i64 (8 * z1), .int .i64 (8 * (s8 : Int)), .int .i64 (8 * (s8 : Int))] 23 (0, 0)) ∧ wr.heap[g8]? = some (.cells (arrF F) 46 (0, 0)) ∧ Below w.heap.size w wr)) (fun v13 _ => 64 - (intOf v13).toNat)
        case atStart => exact ⟨0, Nat.zero_le _, rfl, HS⟩
        case round =>
          clear HS
          obtain ⟨i, hi, rfl, HS⟩ := hrel
          by_cases hli : i < 64
          · obtain ⟨x0, x1, x2, x3⟩ := box_cells HS.out.1
            have k0 : wr.cell? ⟨g8, i, none⟩ = some (.int .i64 (F i)) := (blk_cell HS.out.2.1 i).trans (arrF_get F i hli)
            have hfi := HTK.out i hli
            obtain ⟨xm, hxm⟩ : ∃ xm, (i : Int) % 8 = xm := ⟨_, rfl⟩
            obtain ⟨ym, hym⟩ : ∃ ym, (i : Int) / 8 = ym := ⟨_, rfl⟩
            have m0 : 0 ≤ xm ∧ xm ≤ 7 := by omega
            have m1 : 0 ≤ ym ∧ ym ≤ 7 := by omega
            rw [hxm, hym] at hfi
            have hcs : (xm < s8 ∧ ym < s8 ∧ F i = 1) ∨ ((s8 : Int) ≤ xm ∧ F i = 0) ∨ (xm < s8 ∧ (s8 : Int) ≤ ym ∧ F i = 0) := by
              rw [hfi]
              clear hfi
              split <;> omega
            have h8s : 8 * (s8 : Int) / 8 = s8 := by omega
            clear hfi
            rcases hcs with ⟨t1, t2, te⟩ | ⟨t1, te⟩ | ⟨t1, t2, te⟩
            · rw [te] at k0
              clear te
              go_wp2_with fail
              exact ⟨⟨i + 1, by omega, rfl, HS⟩, by simp [intOf]; omega⟩
            · rw [te] at k0
              clear te
              go_wp2_with fail
              exact ⟨⟨i + 1, by omega, rfl, HS⟩, by simp [intOf]; omega⟩
            · rw [te] at k0
              clear te
              go_wp2_with fail
              exact ⟨⟨i + 1, by omega, rfl, HS⟩, by simp [intOf]; omega⟩
          · obtain rfl : i = 64 := by omega
            go_wp2_with fail
            exact ⟨⟨K + 1, by omega, rfl, ⟨HS.out.1, HS.out.2.2⟩⟩, by simp [intOf]; omega⟩
      · obtain rfl : K = T := by omega
        obtain ⟨x0, x1, x2, x3⟩ := box_cells HS.out.1
        go_wp2_with fail
        refine (HCN.out _).mono ?_
        rintro e w6 ⟨v6, rfl, hb6⟩
        have HB6 := Aside0.mk (HS.out.2.trans (hb6.mono HS.out.2.size))
        clear hb6
        go_wp2_with fail
        go_ret
        exact ⟨rfl, HB6.out⟩

theorem law_parts (n0 n1 n2 n3 : Int) (k : Int) (W : World) (_ : (Lit.int .i64 n0).wf = true) (_ : (Lit.int .i64 n1).wf = true) (_ : (Lit.int .i64 n2).wf = true) (_ : (Lit.int .i64 n3).wf = true) (_ : (Lit.int .i64 k).wf = true) :
    Calls Try.prog 8 #[.agg #[.int .i64 n0, .int .i64 n1, .int .i64 n2, .int .i64 n3], .int .i64 k] W fun e w' => e = .returned (.bool true) ∧ Below W.heap.size W w' :=
  parts_walk ⟨n0, n1, n2, n3⟩ k W
end Go.Proofs.Ytjobfnicnoffmaa.Lq
