/- The reference's Blocks: any rectangle, any area, any choices. -/
import Derived.Test.YtjobfnicnoffmaaGs
namespace Go.Proofs.Ytjobfnicnoffmaa.Gl
open Go.RowKit Go.Proofs.Ytjobfnicnoffmaa.PPartTrees Go.Proofs.YtjobfnicnoffmaaW.PrintWords Go.Proofs.YtjobfnicnoffmaaW.PrintLast Go.Proofs.YtjobfnicnoffmaaW.PrintMore Go.Proofs.Ytjobfnicnoffmaa.Pt Go.Proofs.Ytjobfnicnoffmaa.Ph Go.Proofs.Ytjobfnicnoffmaa.Li Go.Proofs.Ytjobfnicnoffmaa.Pc Go.Proofs.Ytjobfnicnoffmaa.Tr Go.Proofs.Ytjobfnicnoffmaa.Rx Go.Proofs.Ytjobfnicnoffmaa.Gq Go.Proofs.Ytjobfnicnoffmaa.Gs

/-- Tree.Go at each size. -/
theorem rtree_any (W0 : World) (g : Nat) (a : S23) (A : Option Addr) (c : Nat) (cs : List Int) (ha : Small a) (hC : Kd.C (Kd.int .i64) W0 A cs.length cs) (k : Nat) (hk : k ≤ 3) : ∀ r, IsReg k r → RCall 35 W0 g a A c cs (4 ^ (k + 1)) r (treeF k a r) := by
  induction k with
  | zero =>
    intro r hr
    have hs := go_step W0 g a A c cs 1 r (fun _ l => ([], l)) ha (hr.regB (by omega))
      (fun q hq => by
        have hw : r.f2 = 8 := hr.1
        have : cutAns r 3 = [] := by
          unfold cutAns cutOk
          rw [show typesN r.f2 = 1 by rw [hw]; decide]
          simp
        rw [this] at hq
        cases hq) (fun q l => by simp) (Nat.le_refl _) hC
    rw [show stepF (fun _ l => ([], l)) a r = treeF 0 a r from funext fun l => step_zero a r l hr] at hs
    exact hs
  | succ k ih =>
    intro r hr
    have hc : cutAns r 3 = cutsL r 3 := by
      have ht := types_succ hk
      rw [← hr.1] at ht
      unfold cutAns
      rw [cutOk_of hk hr 3 (by omega) (by omega), if_pos rfl]
    have hs := go_step W0 g a A c cs (4 ^ (k + 1)) r (treeF k a) ha (hr.regB hk)
      (fun q hq => by
        rw [hc] at hq
        exact ih (by omega) q (quarters_reg hr q hq))
      (fun q l => treeF_len a k q l) (Nat.pow_pos (by omega)) hC
    rw [show stepF (treeF k a) a r = treeF (k + 1) a r from funext fun l => step_succ a r l k hk hr] at hs
    rw [show 4 ^ (k + 1 + 1) = 4 * 4 ^ (k + 1) by rw [Nat.pow_succ, Nat.mul_comm]]
    exact hs
theorem reights_any (n a b : Int) (w : World) (ha : 0 ≤ a) : Calls Try.prog 34 #[.int .i64 n, .int .i64 a, .int .i64 b] w fun e w' => e = .returned (.bool (eightsB n a b)) ∧ Drawn0 w w' := zoetroperef16_eights.calls n a b _ w (reights_eq n a b ha)

set_option maxRecDepth 100000 in
set_option maxHeartbeats 4000000 in
theorem rblocks_any (r a : S23) (A : Option Addr) (c : Nat) (l : List Int) (w : World) (hC : Kd.C (Kd.int .i64) w A l.length l) :
    Calls Try.prog 21 #[aggS r, aggS a, .slice A l.length c] w fun e w' => ∃ v, e = .returned (.tuple #[v, .int .i64 (blkUsed r a l), .int .i64 (blkErr r a)]) ∧ Kd.R k23 23 w' w.heap.size (fun _ => True) v (blkAns r a l) ∧ Below w.heap.size w w' := by
  have HCC := Aside0.mk hC
  have E0 := Aside0.mk (fun w => reights_any a.f0 0 1024 w (by omega))
  have E1 := Aside0.mk (fun w => reights_any a.f1 0 1024 w (by omega))
  have E2 := Aside0.mk (fun w => reights_any a.f2 8 1024 w (by omega))
  have E3 := Aside0.mk (fun w => reights_any a.f3 8 1024 w (by omega))
  have ER := Aside0.mk (fun w => rregion_any r w)
  obtain ⟨f0, f1, f2, f3⟩ := r
  obtain ⟨b0, b1, b2, b3⟩ := a
  dsimp only [aggS] at E0 E1 E2 E3 ER ⊢
  obtain ⟨ok, hok⟩ : ∃ ok, blkOk ⟨f0, f1, f2, f3⟩ ⟨b0, b1, b2, b3⟩ = ok := ⟨_, rfl⟩
  have HOK := Aside0.mk hok
  unfold blkOk areaB at hok
  dsimp only at hok
  clear hC
  go_enter Try.func21, Try.ntmps21
  go_upto_region 1 with fail
  obtain ⟨w1, ew1⟩ : ∃ w1, (w.alloc (.cells #[.int .i64 f0, .int .i64 f1, .int .i64 f2, .int .i64 f3] 23)).alloc (.cells #[.int .i64 b0, .int .i64 b1, .int .i64 b2, .int .i64 b3] 23) = w1 := ⟨_, rfl⟩
  have hbr : w1.heap[w.heap.size]? = some (.cells #[.int .i64 f0, .int .i64 f1, .int .i64 f2, .int .i64 f3] 23 (0, 0)) := by rw [← ew1]; exact old (heap_alloc_new w _)
  have hba : w1.heap[w.heap.size + 1]? = some (.cells #[.int .i64 b0, .int .i64 b1, .int .i64 b2, .int .i64 b3] 23 (0, 0)) := by
    rw [← ew1]
    have := heap_alloc_new (w.alloc (.cells #[.int .i64 f0, .int .i64 f1, .int .i64 f2, .int .i64 f3] 23)) (.cells #[.int .i64 b0, .int .i64 b1, .int .i64 b2, .int .i64 b3] 23)
    rwa [show (w.alloc (.cells #[.int .i64 f0, .int .i64 f1, .int .i64 f2, .int .i64 f3] 23)).heap.size = w.heap.size + 1 by simp] at this
  have hb1 : Below w.heap.size w w1 := by rw [← ew1]; exact below_alloc (below_alloc (Below.refl _ _) _) _
  rw [ew1]
  have HBR := Aside0.mk hbr
  have HBA := Aside0.mk hba
  have HB1 := Aside0.mk hb1
  clear hbr hba hb1 ew1
  obtain ⟨e0, h0⟩ : ∃ e0, eightsB b0 0 1024 = e0 := ⟨_, rfl⟩
  obtain ⟨e1, h1⟩ : ∃ e1, eightsB b1 0 1024 = e1 := ⟨_, rfl⟩
  obtain ⟨e2, h2⟩ : ∃ e2, eightsB b2 8 1024 = e2 := ⟨_, rfl⟩
  obtain ⟨e3, h3⟩ : ∃ e3, eightsB b3 8 1024 = e3 := ⟨_, rfl⟩
  obtain ⟨er, h4⟩ : ∃ er, regB ⟨f0, f1, f2, f3⟩ = er := ⟨_, rfl⟩
  rw [h0] at E0 hok
  rw [h1] at E1 hok
  rw [h2] at E2 hok
  rw [h3] at E3 hok
  rw [h4] at ER hok
  clear h0 h1 h2 h3 h4
  have HOKE := Aside0.mk hok
  clear hok
  go_cut [51] (fun s51 wx => s51 = .bool (!ok) ∧ Aside0 (Below w1.heap.size w1 wx))
  case first =>
    obtain ⟨x0, x1, x2, x3⟩ := box_cells HBR.out
    obtain ⟨y0, y1, y2, y3⟩ := box_cells HBA.out
    cases er with
    | false =>
      have hk : ok = false := by rw [← HOKE.out]; simp
      subst hk
      go_wp2_with fail
      refine (ER.out _).mono ?_
      rintro e w2 ⟨rfl, hb⟩
      have HB2 := Aside0.mk hb
      clear hb x0 x1 x2 x3 y0 y1 y2 y3
      obtain ⟨x0, x1, x2, x3⟩ := box_cells ((HB2.out.block _ (blk_lt HBR.out)).trans HBR.out)
      obtain ⟨y0, y1, y2, y3⟩ := box_cells ((HB2.out.block _ (blk_lt HBA.out)).trans HBA.out)
      go_wp2_with fail
      go_meet
      exact ⟨rfl, HB2⟩
    | true =>
      by_cases hw : f2 = 64
      · subst hw
        by_cases hx0 : f0 > 1024
        · skip
          have hk : ok = false := by rw [← HOKE.out]; simp [show ¬ f0 ≤ 1024 by omega]
          subst hk
          go_wp2_with fail
          refine (ER.out _).mono ?_
          rintro e w2 ⟨rfl, hb⟩
          have HB2 := Aside0.mk hb
          clear hb x0 x1 x2 x3 y0 y1 y2 y3
          obtain ⟨x0, x1, x2, x3⟩ := box_cells ((HB2.out.block _ (blk_lt HBR.out)).trans HBR.out)
          obtain ⟨y0, y1, y2, y3⟩ := box_cells ((HB2.out.block _ (blk_lt HBA.out)).trans HBA.out)
          go_wp2_with fail
          go_meet
          exact ⟨rfl, HB2⟩
        · by_cases hx1 : f1 > 1024
          · skip
            have hk : ok = false := by rw [← HOKE.out]; simp [show ¬ f1 ≤ 1024 by omega]
            subst hk
            go_wp2_with fail
            refine (ER.out _).mono ?_
            rintro e w2 ⟨rfl, hb⟩
            have HB2 := Aside0.mk hb
            clear hb x0 x1 x2 x3 y0 y1 y2 y3
            obtain ⟨x0, x1, x2, x3⟩ := box_cells ((HB2.out.block _ (blk_lt HBR.out)).trans HBR.out)
            obtain ⟨y0, y1, y2, y3⟩ := box_cells ((HB2.out.block _ (blk_lt HBA.out)).trans HBA.out)
            go_wp2_with fail
            go_meet
            exact ⟨rfl, HB2⟩
          · skip
            cases e0 with
            | false =>
              have hk : ok = false := by rw [← HOKE.out]; simp
              subst hk
              go_wp2_with fail
              refine (ER.out _).mono ?_
              rintro e w2 ⟨rfl, hb⟩
              have HB2 := Aside0.mk hb
              clear hb x0 x1 x2 x3 y0 y1 y2 y3
              obtain ⟨x0, x1, x2, x3⟩ := box_cells ((HB2.out.block _ (blk_lt HBR.out)).trans HBR.out)
              obtain ⟨y0, y1, y2, y3⟩ := box_cells ((HB2.out.block _ (blk_lt HBA.out)).trans HBA.out)
              go_wp2_with fail
              refine (E0.out _).mono ?_
              rintro e w3 ⟨rfl, hd⟩
              have HB3 := Aside0.mk (below_step HB2.out hd.below)
              clear hd x0 x1 x2 x3 y0 y1 y2 y3
              obtain ⟨x0, x1, x2, x3⟩ := box_cells ((HB3.out.block _ (blk_lt HBR.out)).trans HBR.out)
              obtain ⟨y0, y1, y2, y3⟩ := box_cells ((HB3.out.block _ (blk_lt HBA.out)).trans HBA.out)
              go_wp2_with fail
              go_meet
              exact ⟨rfl, HB3⟩
            | true =>
              cases e1 with
              | false =>
                have hk : ok = false := by rw [← HOKE.out]; simp
                subst hk
                go_wp2_with fail
                refine (ER.out _).mono ?_
                rintro e w2 ⟨rfl, hb⟩
                have HB2 := Aside0.mk hb
                clear hb x0 x1 x2 x3 y0 y1 y2 y3
                obtain ⟨x0, x1, x2, x3⟩ := box_cells ((HB2.out.block _ (blk_lt HBR.out)).trans HBR.out)
                obtain ⟨y0, y1, y2, y3⟩ := box_cells ((HB2.out.block _ (blk_lt HBA.out)).trans HBA.out)
                go_wp2_with fail
                refine (E0.out _).mono ?_
                rintro e w3 ⟨rfl, hd⟩
                have HB3 := Aside0.mk (below_step HB2.out hd.below)
                clear hd x0 x1 x2 x3 y0 y1 y2 y3
                obtain ⟨x0, x1, x2, x3⟩ := box_cells ((HB3.out.block _ (blk_lt HBR.out)).trans HBR.out)
                obtain ⟨y0, y1, y2, y3⟩ := box_cells ((HB3.out.block _ (blk_lt HBA.out)).trans HBA.out)
                go_wp2_with fail
                refine (E1.out _).mono ?_
                rintro e w4 ⟨rfl, hd⟩
                have HB4 := Aside0.mk (below_step HB3.out hd.below)
                clear hd x0 x1 x2 x3 y0 y1 y2 y3
                obtain ⟨x0, x1, x2, x3⟩ := box_cells ((HB4.out.block _ (blk_lt HBR.out)).trans HBR.out)
                obtain ⟨y0, y1, y2, y3⟩ := box_cells ((HB4.out.block _ (blk_lt HBA.out)).trans HBA.out)
                go_wp2_with fail
                go_meet
                exact ⟨rfl, HB4⟩
              | true =>
                cases e2 with
                | false =>
                  have hk : ok = false := by rw [← HOKE.out]; simp
                  subst hk
                  go_wp2_with fail
                  refine (ER.out _).mono ?_
                  rintro e w2 ⟨rfl, hb⟩
                  have HB2 := Aside0.mk hb
                  clear hb x0 x1 x2 x3 y0 y1 y2 y3
                  obtain ⟨x0, x1, x2, x3⟩ := box_cells ((HB2.out.block _ (blk_lt HBR.out)).trans HBR.out)
                  obtain ⟨y0, y1, y2, y3⟩ := box_cells ((HB2.out.block _ (blk_lt HBA.out)).trans HBA.out)
                  go_wp2_with fail
                  refine (E0.out _).mono ?_
                  rintro e w3 ⟨rfl, hd⟩
                  have HB3 := Aside0.mk (below_step HB2.out hd.below)
                  clear hd x0 x1 x2 x3 y0 y1 y2 y3
                  obtain ⟨x0, x1, x2, x3⟩ := box_cells ((HB3.out.block _ (blk_lt HBR.out)).trans HBR.out)
                  obtain ⟨y0, y1, y2, y3⟩ := box_cells ((HB3.out.block _ (blk_lt HBA.out)).trans HBA.out)
                  go_wp2_with fail
                  refine (E1.out _).mono ?_
                  rintro e w4 ⟨rfl, hd⟩
                  have HB4 := Aside0.mk (below_step HB3.out hd.below)
                  clear hd x0 x1 x2 x3 y0 y1 y2 y3
                  obtain ⟨x0, x1, x2, x3⟩ := box_cells ((HB4.out.block _ (blk_lt HBR.out)).trans HBR.out)
                  obtain ⟨y0, y1, y2, y3⟩ := box_cells ((HB4.out.block _ (blk_lt HBA.out)).trans HBA.out)
                  go_wp2_with fail
                  refine (E2.out _).mono ?_
                  rintro e w5 ⟨rfl, hd⟩
                  have HB5 := Aside0.mk (below_step HB4.out hd.below)
                  clear hd x0 x1 x2 x3 y0 y1 y2 y3
                  obtain ⟨x0, x1, x2, x3⟩ := box_cells ((HB5.out.block _ (blk_lt HBR.out)).trans HBR.out)
                  obtain ⟨y0, y1, y2, y3⟩ := box_cells ((HB5.out.block _ (blk_lt HBA.out)).trans HBA.out)
                  go_wp2_with fail
                  go_meet
                  exact ⟨rfl, HB5⟩
                | true =>
                  have hk : ok = e3 := by rw [← HOKE.out, decide_eq_true (show f0 ≤ 1024 by omega), decide_eq_true (show f1 ≤ 1024 by omega)]; simp
                  subst hk
                  go_wp2_with fail
                  refine (ER.out _).mono ?_
                  rintro e w2 ⟨rfl, hb⟩
                  have HB2 := Aside0.mk hb
                  clear hb x0 x1 x2 x3 y0 y1 y2 y3
                  obtain ⟨x0, x1, x2, x3⟩ := box_cells ((HB2.out.block _ (blk_lt HBR.out)).trans HBR.out)
                  obtain ⟨y0, y1, y2, y3⟩ := box_cells ((HB2.out.block _ (blk_lt HBA.out)).trans HBA.out)
                  go_wp2_with fail
                  refine (E0.out _).mono ?_
                  rintro e w3 ⟨rfl, hd⟩
                  have HB3 := Aside0.mk (below_step HB2.out hd.below)
                  clear hd x0 x1 x2 x3 y0 y1 y2 y3
                  obtain ⟨x0, x1, x2, x3⟩ := box_cells ((HB3.out.block _ (blk_lt HBR.out)).trans HBR.out)
                  obtain ⟨y0, y1, y2, y3⟩ := box_cells ((HB3.out.block _ (blk_lt HBA.out)).trans HBA.out)
                  go_wp2_with fail
                  refine (E1.out _).mono ?_
                  rintro e w4 ⟨rfl, hd⟩
                  have HB4 := Aside0.mk (below_step HB3.out hd.below)
                  clear hd x0 x1 x2 x3 y0 y1 y2 y3
                  obtain ⟨x0, x1, x2, x3⟩ := box_cells ((HB4.out.block _ (blk_lt HBR.out)).trans HBR.out)
                  obtain ⟨y0, y1, y2, y3⟩ := box_cells ((HB4.out.block _ (blk_lt HBA.out)).trans HBA.out)
                  go_wp2_with fail
                  refine (E2.out _).mono ?_
                  rintro e w5 ⟨rfl, hd⟩
                  have HB5 := Aside0.mk (below_step HB4.out hd.below)
                  clear hd x0 x1 x2 x3 y0 y1 y2 y3
                  obtain ⟨x0, x1, x2, x3⟩ := box_cells ((HB5.out.block _ (blk_lt HBR.out)).trans HBR.out)
                  obtain ⟨y0, y1, y2, y3⟩ := box_cells ((HB5.out.block _ (blk_lt HBA.out)).trans HBA.out)
                  go_wp2_with fail
                  refine (E3.out _).mono ?_
                  rintro e w6 ⟨rfl, hd⟩
                  have HB6 := Aside0.mk (below_step HB5.out hd.below)
                  clear hd x0 x1 x2 x3 y0 y1 y2 y3
                  obtain ⟨x0, x1, x2, x3⟩ := box_cells ((HB6.out.block _ (blk_lt HBR.out)).trans HBR.out)
                  obtain ⟨y0, y1, y2, y3⟩ := box_cells ((HB6.out.block _ (blk_lt HBA.out)).trans HBA.out)
                  go_wp2_with fail
                  go_meet
                  exact ⟨by rw [decide_eq_false (show ¬ 1024 < f0 by omega), decide_eq_false (show ¬ 1024 < f1 by omega)]; rfl, HB6⟩
      · have hne : (f2 != 64) = true := bne_iff_ne.2 hw
        have hk : ok = false := by rw [← HOKE.out]; simp [hw]
        subst hk
        go_wp2_with fail
        refine (ER.out _).mono ?_
        rintro e w2 ⟨rfl, hb⟩
        have HB2 := Aside0.mk hb
        clear hb x0 x1 x2 x3 y0 y1 y2 y3
        obtain ⟨x0, x1, x2, x3⟩ := box_cells ((HB2.out.block _ (blk_lt HBR.out)).trans HBR.out)
        obtain ⟨y0, y1, y2, y3⟩ := box_cells ((HB2.out.block _ (blk_lt HBA.out)).trans HBA.out)
        go_wp2_with fail
        go_meet
        exact ⟨rfl, HB2⟩
  case rest =>
    obtain ⟨rfl, HB⟩ := hcut
    have HBR3 := Aside0.mk ((HB.out.block _ (blk_lt HBR.out)).trans HBR.out)
    have HBA3 := Aside0.mk ((HB.out.block _ (blk_lt HBA.out)).trans HBA.out)
    have HB3 := Aside0.mk (HB1.out.trans (HB.out.mono HB1.out.size))
    clear HB HB1 HBR HBA E0 E1 E2 E3 ER HOKE
    cases ok with
    | false =>
      go_wp2_with fail
      go_ret3
      exact ⟨_, by unfold blkUsed blkErr; rw [HOK.out]; rfl, by unfold blkAns; rw [HOK.out]; exact Kd.R_nil _ _ _ _ _, HB3.out⟩
    | true =>
      obtain ⟨x0, x1, x2, x3⟩ := box_cells HBR3.out
      obtain ⟨y0, y1, y2, y3⟩ := box_cells HBA3.out
      have hz : w.heap.size < wc.heap.size := blk_lt HBR3.out
      have hza : w.heap.size + 1 < wc.heap.size := blk_lt HBA3.out
      have hok := HOK.out
      unfold blkOk areaB eightsB at hok
      simp only [Bool.and_eq_true, decide_eq_true_eq] at hok
      obtain ⟨hreg, hw, hx, hy, ⟨g00, g01, g02⟩, ⟨g10, g11, g12⟩, ⟨g20, g21, g22⟩, g30, g31, g32⟩ := hok
      obtain ⟨-, p1, p2, p3⟩ := regB_iff.1 hreg
      dsimp only at p1 p2 p3
      have hR : IsReg 3 ⟨f0, f1, f2, f3⟩ := ⟨hw, by rw [← p1]; exact hw, ⟨p2.1, p2.2.1, by show f0 + 64 ≤ 2048; omega⟩, p3.1, p3.2.1, by show f1 + 64 ≤ 2048; omega⟩
      have hS : Small ⟨b0, b1, b2, b3⟩ := by unfold Small; dsimp only; omega
      have hCw := Kd.C_below HCC.out HB3.out
      have hlm := Kd.C_max HCC.out
      have HT := Aside0.mk (rtree_any wc wc.heap.size ⟨b0, b1, b2, b3⟩ A c l hS hCw 3 (by omega) ⟨f0, f1, f2, f3⟩ hR 0 (.slice none 0 0) [] (wc.alloc (.cells #[.int .i64 b0, .int .i64 b1, .int .i64 b2, .int .i64 b3, .slice A l.length c, .int .i64 0, .slice none 0 0] 61)) (by simp)
        ⟨below_alloc (Below.refl _ _) _, Nat.le_refl _, Nat.zero_le _, heap_alloc_new _ _, Kd.R_nil _ _ _ _ _⟩)
      clear hreg hw hx hy g00 g01 g02 g10 g11 g12 g20 g21 g22 g30 g31 g32 p1 p2 p3 hR hS hCw
      go_wp2_with fail
      refine HT.out.mono ?_
      rintro e w6 ⟨rfl, used, v, h1, h2, -, -⟩
      rw [List.drop_zero] at h1 h2
      obtain ⟨A6, c6, rfl, hl6, -⟩ := Kd.R_reads h2.own
      obtain ⟨T, eT⟩ : ∃ T, treeF 3 ⟨b0, b1, b2, b3⟩ ⟨f0, f1, f2, f3⟩ l = T := ⟨_, rfl⟩
      rw [eT, List.nil_append] at h2
      rw [eT] at h1
      have hul := congrArg List.length h1
      rw [List.length_drop] at hul
      have hle := h2.le
      obtain ⟨k0, k1, k2, k3, k4, k5, k6⟩ := tree_cells h2
      have H2 := Aside0.mk h2
      have HET := Aside0.mk eT
      have HUL := Aside0.mk hul
      clear h1 h2 eT hul HT x0 x1 x2 x3 y0 y1 y2 y3 k0 k1 k2 k3 k4
      go_wp2_with fail
      go_quiet (fail)
      go_wp2_with fail
      go_ret3
      have eu : blkUsed ⟨f0, f1, f2, f3⟩ ⟨b0, b1, b2, b3⟩ l = (used : Int) := by
        unfold blkUsed
        rw [HOK.out, HET.out, if_pos rfl]
        have := HUL.out
        omega
      have ee : blkErr ⟨f0, f1, f2, f3⟩ ⟨b0, b1, b2, b3⟩ = 0 := by unfold blkErr; rw [HOK.out]; rfl
      have ea : blkAns ⟨f0, f1, f2, f3⟩ ⟨b0, b1, b2, b3⟩ l = T.1 := by unfold blkAns; rw [HOK.out, HET.out, if_pos rfl]
      rw [eu, ee, ea]
      exact ⟨.slice A6 T.1.length c6, rfl, Kd.R_drewN (Kd.R_lower (Kd.R_mono H2.out.own (fun _ _ => trivial)) HB3.out.size) _, pw_below_drewN (below_step HB3.out H2.out.below) _⟩
end Go.Proofs.Ytjobfnicnoffmaa.Gl
