/- The walk of part.Blocks: any rectangle, any area, any choices. -/
import Derived.Test.YtjobfnicnoffmaaTa
import Derived.Laws.EntriesVeiled
namespace Go.Proofs.Ytjobfnicnoffmaa.Bk
open Go.RowKit Go.Proofs.Ytjobfnicnoffmaa.PPartTrees Go.Proofs.YtjobfnicnoffmaaW.PrintWords Go.Proofs.YtjobfnicnoffmaaW.PrintLast Go.Proofs.YtjobfnicnoffmaaW.PrintMore Go.Proofs.Ytjobfnicnoffmaa.Pt Go.Proofs.Ytjobfnicnoffmaa.Ph Go.Proofs.Ytjobfnicnoffmaa.Li Go.Proofs.Ytjobfnicnoffmaa.Pc Go.Proofs.Ytjobfnicnoffmaa.Nx Go.Proofs.Ytjobfnicnoffmaa.Gr Go.Proofs.Ytjobfnicnoffmaa.Tr

attribute [local go_sem] max2_int min2_int max_two min_two   -- for this text's walks alone

def Fits (r : S23) : Prop := r.f0 ≤ 9223372036854775807 ∧ r.f1 ≤ 9223372036854775807 ∧ r.f2 ≤ 9223372036854775807 ∧ r.f3 ≤ 9223372036854775807
theorem eights_any (n a b : Int) (w : World) (h : n ≤ 9223372036854775807) (ha : 0 ≤ a) : Calls Try.prog 24 #[.int .i64 n, .int .i64 a, .int .i64 b] w fun e w' => e = .returned (.bool (eightsB n a b)) ∧ Drawn0 w w' := part_eights.calls n a b _ w (eights_eq n a b h ha)

set_option maxRecDepth 100000 in
set_option maxHeartbeats 4000000 in
theorem blocks_any (r a : S23) (A : Option Addr) (c : Nat) (l : List Int) (w : World) (hr : Fits r) (ha : Fits a) (hC : Kd.C (Kd.int .i64) w A l.length l) (hc : l.length ≤ c) :
    Calls Try.prog 11 #[aggS r, aggS a, .slice A l.length c] w fun e w' => ∃ v, e = .returned (.tuple #[v, .int .i64 (blkUsed r a l), .int .i64 (blkErr r a)]) ∧ Kd.R k23 23 w' w.heap.size (fun _ => True) v (blkAns r a l) ∧ Below w.heap.size w w' := by
  have HCC := Aside0.mk hC
  have E0 := Aside0.mk (fun w => eights_any a.f0 0 1024 w ha.1 (by omega))
  have E1 := Aside0.mk (fun w => eights_any a.f1 0 1024 w ha.2.1 (by omega))
  have E2 := Aside0.mk (fun w => eights_any a.f2 8 1024 w ha.2.2.1 (by omega))
  have E3 := Aside0.mk (fun w => eights_any a.f3 8 1024 w ha.2.2.2 (by omega))
  have ER := Aside0.mk (fun w => region_any r w hr.1 hr.2.1)
  obtain ⟨f0, f1, f2, f3⟩ := r
  obtain ⟨b0, b1, b2, b3⟩ := a
  dsimp only [aggS] at E0 E1 E2 E3 ER ⊢
  obtain ⟨ok, hok⟩ : ∃ ok, blkOk ⟨f0, f1, f2, f3⟩ ⟨b0, b1, b2, b3⟩ = ok := ⟨_, rfl⟩
  have HOK := Aside0.mk hok
  unfold blkOk areaB at hok
  dsimp only at hok
  clear hC hr ha
  go_enter Try.func11, Try.ntmps11
  go_upto_region 1 with fail
  obtain ⟨w1, ew1⟩ : ∃ w1, (w.alloc (.cells #[.int .i64 f0, .int .i64 f1, .int .i64 f2, .int .i64 f3] 23)).alloc (.cells #[.int .i64 b0, .int .i64 b1, .int .i64 b2, .int .i64 b3] 23) = w1 := ⟨_, rfl⟩
  have hbr : w1.heap[w.heap.size]? = some (.cells #[.int .i64 f0, .int .i64 f1, .int .i64 f2, .int .i64 f3] 23 (0, 0)) := by rw [← ew1]; exact old (heap_alloc_new w _)
  have hba : w1.heap[w.heap.size + 1]? = some (.cells #[.int .i64 b0, .int .i64 b1, .int .i64 b2, .int .i64 b3] 23 (0, 0)) := by
    rw [← ew1]
    have := heap_alloc_new (w.alloc (.cells #[.int .i64 f0, .int .i64 f1, .int .i64 f2, .int .i64 f3] 23)) (.cells #[.int .i64 b0, .int .i64 b1, .int .i64 b2, .int .i64 b3] 23)
    rwa [show (w.alloc (.cells #[.int .i64 f0, .int .i64 f1, .int .i64 f2, .int .i64 f3] 23)).heap.size = w.heap.size + 1 by simp] at this
  have hb1 : Below w.heap.size w w1 := by rw [← ew1]; exact below_alloc (below_alloc (Below.refl _ _) _) _
  rw [ew1]
  have HBR := Aside0.mk hbr
  have HBA := Aside0.mk hba
  have HB1 := Aside0.mk hb1
  have HREF := Aside0.mk (Below.refl w1.heap.size w1)
  clear hbr hba hb1 ew1
  obtain ⟨e0, h0⟩ : ∃ e0, eightsB b0 0 1024 = e0 := ⟨_, rfl⟩
  obtain ⟨e1, h1⟩ : ∃ e1, eightsB b1 0 1024 = e1 := ⟨_, rfl⟩
  obtain ⟨e2, h2⟩ : ∃ e2, eightsB b2 8 1024 = e2 := ⟨_, rfl⟩
  obtain ⟨e3, h3⟩ : ∃ e3, eightsB b3 8 1024 = e3 := ⟨_, rfl⟩
  obtain ⟨er, h4⟩ : ∃ er, regB ⟨f0, f1, f2, f3⟩ = er := ⟨_, rfl⟩
  rw [h0] at E0 hok
  rw [h1] at E1 hok
  rw [h2] at E2 hok
  rw [h3] at E3 hok
  rw [h4] at ER hok
  clear h0 h1 h2 h3 h4
  have HOKE := Aside0.mk hok
  clear hok
  go_cut [9] (fun s9 wx => s9 = .bool (e0 && e1) ∧ Aside0 (Below w1.heap.size w1 wx))
  case first =>
    obtain ⟨y0, y1, y2, y3⟩ := box_cells HBA.out
    cases e0 with
    | false =>
      go_wp2_with fail
      refine (E0.out _).mono ?_
      rintro e w' ⟨rfl, ⟨nd, rfl⟩⟩
      go_wp2_with fail
      go_meet
      exact ⟨rfl, ⟨pw_below_drewN HREF.out _⟩⟩
    | true =>
      go_wp2_with fail
      refine (E0.out _).mono ?_
      rintro e w' ⟨rfl, ⟨nd, rfl⟩⟩
      go_wp2_with fail
      refine (E1.out _).mono ?_
      rintro e w' ⟨rfl, ⟨nd2, rfl⟩⟩
      go_wp2_with fail
      go_meet
      exact ⟨by simp, ⟨pw_below_drewN HREF.out _⟩⟩
  case rest =>
    obtain ⟨rfl, HB⟩ := hcut
    obtain ⟨pl, hpl⟩ : ∃ pl, (e0 && e1) = pl := ⟨_, rfl⟩
    rw [hpl]
    have HPL := Aside0.mk hpl
    clear hpl HREF
    have hbr := (HB.out.block _ (blk_lt HBR.out)).trans HBR.out
    have hba := (HB.out.block _ (blk_lt HBA.out)).trans HBA.out
    have HBR2 := Aside0.mk hbr
    have HBA2 := Aside0.mk hba
    have HB2 := Aside0.mk (HB1.out.trans (HB.out.mono HB1.out.size))
    have HREF := Aside0.mk (Below.refl wc.heap.size wc)
    clear hbr hba HB HB1 HBR HBA
    go_upto_region 2 with fail
    generalize wc = w2 at *
    go_cut [53] (fun s53 wx => s53 = .bool (!ok) ∧ Aside0 (Below w2.heap.size w2 wx))
    case first =>
      skip
      obtain ⟨x0, x1, x2, x3⟩ := box_cells HBR2.out
      obtain ⟨y0, y1, y2, y3⟩ := box_cells HBA2.out
      cases er with
      | false =>
        have hk : ok = false := by rw [← HOKE.out]; simp
        subst hk
        go_wp2_with fail
        refine (ER.out _).mono ?_
        rintro e w' ⟨rfl, hb⟩
        go_wp2_with fail
        go_meet
        exact ⟨rfl, ⟨hb⟩⟩
      | true =>
        by_cases hw : f2 = 64
        · subst hw
          by_cases hx : f0 ≤ 1024 ∧ f1 ≤ 1024
          · cases pl with
            | false =>
              have hk : ok = false := by
                rw [← HOKE.out]
                have := HPL.out
                cases e0 <;> cases e1 <;> simp_all
              subst hk
              obtain ⟨hx0, hx1⟩ := hx
              go_wp2_with fail
              refine (ER.out _).mono ?_
              rintro e w' ⟨rfl, hb⟩
              obtain ⟨z0, z1, z2, z3⟩ := box_cells ((hb.block _ (blk_lt HBR2.out)).trans HBR2.out)
              obtain ⟨v0, v1, v2, v3⟩ := box_cells ((hb.block _ (blk_lt HBA2.out)).trans HBA2.out)
              have HBB := Aside0.mk hb
              clear hb x0 x1 x2 x3 y0 y1 y2 y3
              go_wp2_with fail
              all_goals (go_meet; exact ⟨rfl, HBB⟩)
            | true =>
              cases e2 with
              | false =>
                have hk : ok = false := by rw [← HOKE.out]; simp
                subst hk
                obtain ⟨hx0, hx1⟩ := hx
                go_wp2_with fail
                refine (ER.out _).mono ?_
                rintro e w' ⟨rfl, hb⟩
                obtain ⟨z0, z1, z2, z3⟩ := box_cells ((hb.block _ (blk_lt HBR2.out)).trans HBR2.out)
                obtain ⟨v0, v1, v2, v3⟩ := box_cells ((hb.block _ (blk_lt HBA2.out)).trans HBA2.out)
                have HBB := Aside0.mk hb
                clear hb x0 x1 x2 x3 y0 y1 y2 y3
                go_wp2_with fail
                all_goals (refine (E2.out _).mono ?_; rintro e w' ⟨rfl, ⟨nd, rfl⟩⟩; go_wp2_with fail; go_meet; exact ⟨rfl, ⟨pw_below_drewN HBB.out _⟩⟩)
              | true =>
                have hk : ok = e3 := by
                  rw [← HOKE.out]
                  have h2 := HPL.out
                  rw [Bool.and_eq_true] at h2
                  rw [h2.1, h2.2, decide_eq_true hx.1, decide_eq_true hx.2]
                  simp
                subst hk
                obtain ⟨hx0, hx1⟩ := hx
                have t0 : decide (1024 < f0) = false := decide_eq_false (by omega)
                have t1 : decide (1024 < f1) = false := decide_eq_false (by omega)
                go_wp2_with fail
                refine (ER.out _).mono ?_
                rintro e w' ⟨rfl, hb⟩
                obtain ⟨z0, z1, z2, z3⟩ := box_cells ((hb.block _ (blk_lt HBR2.out)).trans HBR2.out)
                obtain ⟨v0, v1, v2, v3⟩ := box_cells ((hb.block _ (blk_lt HBA2.out)).trans HBA2.out)
                have HBB := Aside0.mk hb
                clear hb x0 x1 x2 x3 y0 y1 y2 y3
                go_wp2_with fail
                all_goals (refine (E2.out _).mono ?_; rintro e w' ⟨rfl, ⟨nd, rfl⟩⟩; obtain ⟨q0, q1, q2, q3⟩ := box_cells (w := (_ : World).drewN nd) ((HBB.out.block _ (blk_lt HBA2.out)).trans HBA2.out); go_wp2_with fail; refine (E3.out _).mono ?_; rintro e w' ⟨rfl, ⟨nd2, rfl⟩⟩; go_wp2_with fail; go_meet; exact ⟨rfl, ⟨pw_below_drewN HBB.out _⟩⟩)
          · have hk : ok = false := by
              rw [← HOKE.out]
              rcases Decidable.not_and_iff_or_not.1 hx with h | h <;> simp [h]
            subst hk
            have hx2 : f0 > 1024 ∨ f1 > 1024 := by omega
            clear hx
            by_cases hx0 : f0 > 1024
            · by_cases hlt : f0 < f1
              · have hx1 : f1 > 1024 := by omega
                go_wp2_with fail
                refine (ER.out _).mono ?_
                rintro e w' ⟨rfl, hb⟩
                obtain ⟨z0, z1, z2, z3⟩ := box_cells ((hb.block _ (blk_lt HBR2.out)).trans HBR2.out)
                obtain ⟨v0, v1, v2, v3⟩ := box_cells ((hb.block _ (blk_lt HBA2.out)).trans HBA2.out)
                have HBB := Aside0.mk hb
                clear hb x0 x1 x2 x3 y0 y1 y2 y3
                go_wp2_with fail
                all_goals (go_meet; exact ⟨rfl, HBB⟩)
              · clear hx2
                go_wp2_with fail
                refine (ER.out _).mono ?_
                rintro e w' ⟨rfl, hb⟩
                obtain ⟨z0, z1, z2, z3⟩ := box_cells ((hb.block _ (blk_lt HBR2.out)).trans HBR2.out)
                obtain ⟨v0, v1, v2, v3⟩ := box_cells ((hb.block _ (blk_lt HBA2.out)).trans HBA2.out)
                have HBB := Aside0.mk hb
                clear hb x0 x1 x2 x3 y0 y1 y2 y3
                go_wp2_with fail
                all_goals (go_meet; exact ⟨rfl, HBB⟩)
            · have hx1 : f1 > 1024 := by omega
              have hlt : f0 < f1 := by omega
              go_wp2_with fail
              refine (ER.out _).mono ?_
              rintro e w' ⟨rfl, hb⟩
              obtain ⟨z0, z1, z2, z3⟩ := box_cells ((hb.block _ (blk_lt HBR2.out)).trans HBR2.out)
              obtain ⟨v0, v1, v2, v3⟩ := box_cells ((hb.block _ (blk_lt HBA2.out)).trans HBA2.out)
              have HBB := Aside0.mk hb
              clear hb x0 x1 x2 x3 y0 y1 y2 y3
              go_wp2_with fail
              all_goals (go_meet; exact ⟨rfl, HBB⟩)
        · have hk : ok = false := by rw [← HOKE.out]; simp [hw]
          subst hk
          have hne : (f2 != 64) = true := bne_iff_ne.2 hw
          go_wp2_with fail
          refine (ER.out _).mono ?_
          rintro e w' ⟨rfl, hb⟩
          obtain ⟨z0, z1, z2, z3⟩ := box_cells ((hb.block _ (blk_lt HBR2.out)).trans HBR2.out)
          obtain ⟨v0, v1, v2, v3⟩ := box_cells ((hb.block _ (blk_lt HBA2.out)).trans HBA2.out)
          have HBB := Aside0.mk hb
          clear hb x0 x1 x2 x3 y0 y1 y2 y3
          go_wp2_with fail
          all_goals (go_meet; exact ⟨rfl, HBB⟩)
    case rest =>
      obtain ⟨rfl, HB⟩ := hcut
      have hbr := (HB.out.block _ (blk_lt HBR2.out)).trans HBR2.out
      have hba := (HB.out.block _ (blk_lt HBA2.out)).trans HBA2.out
      have HBR3 := Aside0.mk hbr
      have HBA3 := Aside0.mk hba
      have HB3 := Aside0.mk (HB2.out.trans (HB.out.mono HB2.out.size))
      clear hbr hba HB HB2 HBR2 HBA2 HREF E0 E1 E2 E3 ER HOKE HPL
      cases ok with
      | false =>
        go_wp2_with fail
        go_ret3
        exact ⟨_, by unfold blkUsed blkErr; rw [HOK.out]; rfl, by unfold blkAns; rw [HOK.out]; exact Kd.R_nil _ _ _ _ _, HB3.out⟩
      | true =>
        have hmf : ∀ (fn : Fn) (first cap : Array Value) (w : World), (Instr.makeFunc fn first cap).run Try.prog w = .ok (.func fn first cap) w := fun _ _ _ _ => rfl
        obtain ⟨x0, x1, x2, x3⟩ := box_cells HBR3.out
        have hz : w.heap.size < wc.heap.size := blk_lt HBR3.out
        have hza : w.heap.size + 1 < wc.heap.size := blk_lt HBA3.out
        have hz1 : w.heap.size < wc.heap.size + 1 := by omega
        have hz2 : w.heap.size < wc.heap.size + 1 + 1 := by omega
        have hok := HOK.out
        unfold blkOk areaB eightsB at hok
        simp only [Bool.and_eq_true, decide_eq_true_eq] at hok
        obtain ⟨hreg, hw, hx, hy, ⟨g00, g01, g02⟩, ⟨g10, g11, g12⟩, ⟨g20, g21, g22⟩, g30, g31, g32⟩ := hok
        obtain ⟨-, p1, p2, p3⟩ := regB_iff.1 hreg
        dsimp only at p1 p2 p3
        have hR : IsReg 3 ⟨f0, f1, f2, f3⟩ := ⟨hw, by rw [← p1]; exact hw, ⟨p2.1, p2.2.1, by show f0 + 64 ≤ 2048; omega⟩, p3.1, p3.2.1, by show f1 + 64 ≤ 2048; omega⟩
        have hS : Small ⟨b0, b1, b2, b3⟩ := by unfold Small; dsimp only; omega
        have HT := Aside0.mk (tree_any wc (w.heap.size + 1) (wc.heap.size + 1) (wc.heap.size + 1 + 1) wc.heap.size ⟨b0, b1, b2, b3⟩ hS 3 (by omega) ⟨f0, f1, f2, f3⟩ hR)
        have hCw := Kd.C_below HCC.out HB3.out
        have HCW := Aside0.mk hCw
        have hlm := Kd.C_max HCC.out
        clear hreg hw hx hy g00 g01 g02 g10 g11 g12 g20 g21 g22 g30 g31 g32 p1 p2 p3 hR hS hCw
        go_wp2_with fail
        have hcap : Caps (w.heap.size + 1) (wc.heap.size + 1) (wc.heap.size + 1 + 1) wc.heap.size ⟨b0, b1, b2, b3⟩ (((wc.alloc (.cells #[.slice A l.length c] 24)).alloc (.cells #[.func (.func 26) #[] #[.pointer (some ⟨wc.heap.size, 0, none⟩)]] 52)).alloc (.cells #[.func (.func 27) #[] #[.pointer (some ⟨w.heap.size + 1, 0, none⟩), .pointer (some ⟨wc.heap.size + 1, 0, none⟩), .pointer (some ⟨wc.heap.size + 1 + 1, 0, none⟩)]] 53)) := by
          have e1 : (wc.alloc (.cells #[.slice A l.length c] 24)).heap.size = wc.heap.size + 1 := by simp
          have e2 : ((wc.alloc (.cells #[.slice A l.length c] 24)).alloc (.cells #[.func (.func 26) #[] #[.pointer (some ⟨wc.heap.size, 0, none⟩)]] 52)).heap.size = wc.heap.size + 1 + 1 := by simp
          refine ⟨old (old (old HBA3.out)), ?_, ?_, by omega, by omega, by omega⟩
          · have := heap_alloc_new (wc.alloc (.cells #[.slice A l.length c] 24)) (.cells #[.func (.func 26) #[] #[.pointer (some ⟨wc.heap.size, 0, none⟩)]] 52)
            rw [e1] at this
            exact old this
          · have := heap_alloc_new ((wc.alloc (.cells #[.slice A l.length c] 24)).alloc (.cells #[.func (.func 26) #[] #[.pointer (some ⟨wc.heap.size, 0, none⟩)]] 52)) (.cells #[.func (.func 27) #[] #[.pointer (some ⟨w.heap.size + 1, 0, none⟩), .pointer (some ⟨wc.heap.size + 1, 0, none⟩), .pointer (some ⟨wc.heap.size + 1 + 1, 0, none⟩)]] 53)
            rw [e2] at this
            exact this
        have hlft : Lft wc wc.heap.size l (((wc.alloc (.cells #[.slice A l.length c] 24)).alloc (.cells #[.func (.func 26) #[] #[.pointer (some ⟨wc.heap.size, 0, none⟩)]] 52)).alloc (.cells #[.func (.func 27) #[] #[.pointer (some ⟨w.heap.size + 1, 0, none⟩), .pointer (some ⟨wc.heap.size + 1, 0, none⟩), .pointer (some ⟨wc.heap.size + 1 + 1, 0, none⟩)]] 53)) :=
          ⟨below_alloc (below_alloc (below_alloc (Below.refl _ _) _) _) _, Nat.le_refl _, A, c, old (old (heap_alloc_new wc _)), HCW.out, hc⟩
        refine (HT.out l _ hcap hlft).mono ?_
        rintro e w6 ⟨v6, rfl, hr6, hl6, hk6⟩
        clear hcap hlft
        obtain ⟨hb6, -, A6, c6, hg6, -, hc6⟩ := hl6
        have hcell : w6.cell? ⟨wc.heap.size, 0, none⟩ = some (.slice A6 (treeF 3 ⟨b0, b1, b2, b3⟩ ⟨f0, f1, f2, f3⟩ l).2.length c6) := (blk_cell hg6 0).trans rfl
        have HR6 := Aside0.mk hr6
        have HB6 := Aside0.mk (below_step HB3.out hb6)
        obtain ⟨n6, hn6⟩ : ∃ n, (treeF 3 ⟨b0, b1, b2, b3⟩ ⟨f0, f1, f2, f3⟩ l).2.length = n := ⟨_, rfl⟩
        rw [hn6] at hcell
        have hle : n6 ≤ l.length := by rw [← hn6]; exact treeF_le _ _ _ _
        have HN6 := Aside0.mk hn6
        clear hr6 hk6 hb6 hg6 hc6 hn6
        go_wp2_with fail
        go_quiet (fail)
        go_wp2_with fail
        go_ret3
        exact ⟨v6, by unfold blkUsed blkErr; rw [HOK.out, HN6.out]; rfl, by unfold blkAns; rw [HOK.out]; exact Kd.R_drewN (Kd.R_lower HR6.out (by have := HB3.out.size; simp only [World.size_alloc]; omega)) _, pw_below_drewN HB6.out _⟩
end Go.Proofs.Ytjobfnicnoffmaa.Bk
