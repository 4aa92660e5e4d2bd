/- The walk of the law PartTiles. -/
import Derived.Test.YtjobfnicnoffmaaLu
import Derived.Test.YtjobfnicnoffmaaPz
import Derived.Deep.WholeRow
namespace Go.Proofs.Ytjobfnicnoffmaa.Lt
open Go.RowKit Go.Proofs.Ytjobfnicnoffmaa.PPartTrees Go.Proofs.YtjobfnicnoffmaaW.PrintWords Go.Proofs.YtjobfnicnoffmaaW.PrintLast Go.Proofs.YtjobfnicnoffmaaW.PrintMore Go.Proofs.Ytjobfnicnoffmaa.Pt Go.Proofs.Ytjobfnicnoffmaa.Ph Go.Proofs.Ytjobfnicnoffmaa.Li Go.Proofs.Ytjobfnicnoffmaa.Pc Go.Proofs.Ytjobfnicnoffmaa.Tr Go.Proofs.Ytjobfnicnoffmaa.Bk Go.Proofs.Ytjobfnicnoffmaa.Wk Go.Proofs.Ytjobfnicnoffmaa.Pu Go.Proofs.Ytjobfnicnoffmaa.Br Go.Proofs.Ytjobfnicnoffmaa.Lu Go.Proofs.Ytjobfnicnoffmaa.Cv Go.Proofs.Ytjobfnicnoffmaa.Pz

set_option maxRecDepth 100000 in
set_option maxHeartbeats 4000000 in
theorem tiles_walk (A : Option Addr) (c : Nat) (l : List Int) (r a : S23) (w : World) (hC : Kd.C (Kd.int .i64) w A l.length l) (hc : l.length ≤ c) :
    Calls Try.prog 7 #[aggS r, aggS a, .slice A l.length c] w fun e w' => e = .returned (.bool true) ∧ Below w.heap.size w w' := by
  have HC := Aside0.mk hC
  clear hC
  have HBR := Aside0.mk (fun w => brought_any r a w)
  obtain ⟨f0, f1, f2, f3⟩ := r
  obtain ⟨b0, b1, b2, b3⟩ := a
  have hok := br_ok ⟨f0, f1, f2, f3⟩ ⟨b0, b1, b2, b3⟩
  have hrg := br_reg ⟨f0, f1, f2, f3⟩
  obtain ⟨hfr, hfa⟩ := br_fits ⟨f0, f1, f2, f3⟩ ⟨b0, b1, b2, b3⟩
  obtain ⟨⟨q0, q1, q2, q3⟩, hq⟩ : ∃ q, brR ⟨f0, f1, f2, f3⟩ = q := ⟨_, rfl⟩
  obtain ⟨⟨p0, p1, p2, p3⟩, hp⟩ : ∃ p, brA ⟨b0, b1, b2, b3⟩ = p := ⟨_, rfl⟩
  rw [hq, hp] at HBR
  rw [hq, hp] at hok
  rw [hq] at hrg hfr
  rw [hp] at hfa
  have HOK := Aside0.mk hok
  have HRG := Aside0.mk hrg
  have HFR := Aside0.mk hfr
  have HFA := Aside0.mk hfa
  clear hq hp hok hrg hfr hfa
  dsimp only [aggS] at HBR ⊢
  go_enter Try.func7, Try.ntmps7
  go_wp2_with fail
  refine (works_any _).mono ?_
  rintro e w1 ⟨rfl, hb1⟩
  have hbr : w1.heap[w.heap.size]? = some (.cells #[.int .i64 f0, .int .i64 f1, .int .i64 f2, .int .i64 f3] 23 (0, 0)) := (hb1.block _ (by simp; omega)).trans (old (heap_alloc_new w _))
  have hba : w1.heap[w.heap.size + 1]? = some (.cells #[.int .i64 b0, .int .i64 b1, .int .i64 b2, .int .i64 b3] 23 (0, 0)) := by
    have := heap_alloc_new (w.alloc (.cells #[.int .i64 f0, .int .i64 f1, .int .i64 f2, .int .i64 f3] 23)) (.cells #[.int .i64 b0, .int .i64 b1, .int .i64 b2, .int .i64 b3] 23)
    rw [show (w.alloc (.cells #[.int .i64 f0, .int .i64 f1, .int .i64 f2, .int .i64 f3] 23)).heap.size = w.heap.size + 1 by simp] at this
    exact (hb1.block _ (by simp)).trans this
  have HB1 := Aside0.mk (below_step (below_alloc (below_alloc (Below.refl w.heap.size w) _) _) hb1)
  clear hb1
  obtain ⟨x0, x1, x2, x3⟩ := box_cells hbr
  obtain ⟨y0, y1, y2, y3⟩ := box_cells hba
  go_wp2_with fail
  refine (HBR.out _).mono ?_
  rintro e w2 ⟨rfl, hb2⟩
  have hbr2 := (hb2.block _ (blk_lt hbr)).trans hbr
  have hba2 := (hb2.block _ (blk_lt hba)).trans hba
  clear x0 x1 x2 x3 y0 y1 y2 y3
  have HB2 := Aside0.mk (below_step HB1.out hb2)
  have HBR2 := Aside0.mk hbr2
  have HBA2 := Aside0.mk hba2
  obtain ⟨x0, x1, x2, x3⟩ := box_cells hbr2
  obtain ⟨y0, y1, y2, y3⟩ := box_cells hba2
  have z0 := frozen_of_row w2 w.heap.size 0 _ 23 hbr2
  have z1 := frozen_of_row w2 w.heap.size 1 _ 23 hbr2
  have z2 := frozen_of_row w2 w.heap.size 2 _ 23 hbr2
  have z3 := frozen_of_row w2 w.heap.size 3 _ 23 hbr2
  have u0 := frozen_of_row w2 (w.heap.size + 1) 0 _ 23 hba2
  have u1 := frozen_of_row w2 (w.heap.size + 1) 1 _ 23 hba2
  have u2 := frozen_of_row w2 (w.heap.size + 1) 2 _ 23 hba2
  have u3 := frozen_of_row w2 (w.heap.size + 1) 3 _ 23 hba2
  clear hb2 hbr hba hbr2 hba2 HB1 HBR
  go_wp2_with fail
  have hbr3 := set_other4 (g := w.heap.size + 1) (.int .i64 p0) (.int .i64 p1) (.int .i64 p2) (.int .i64 p3) (set_row4 (.int .i64 q0) (.int .i64 q1) (.int .i64 q2) (.int .i64 q3) HBR2.out) (by omega)
  have hba3 := set_row4 (.int .i64 p0) (.int .i64 p1) (.int .i64 p2) (.int .i64 p3) (set_other4 (g := w.heap.size) (.int .i64 q0) (.int .i64 q1) (.int .i64 q2) (.int .i64 q3) HBA2.out (by omega))
  have hb3 := set_below4 (g := w.heap.size + 1) (.int .i64 p0) (.int .i64 p1) (.int .i64 p2) (.int .i64 p3) (set_below4 (g := w.heap.size) (.int .i64 q0) (.int .i64 q1) (.int .i64 q2) (.int .i64 q3) HB2.out (Nat.le_refl _)) (by omega)
  obtain ⟨w3, ew3⟩ : ∃ w3, ((((((((w2.setCell ⟨w.heap.size, 0, none⟩ (.int .i64 q0)).setCell ⟨w.heap.size, 1, none⟩ (.int .i64 q1)).setCell ⟨w.heap.size, 2, none⟩ (.int .i64 q2)).setCell ⟨w.heap.size, 3, none⟩ (.int .i64 q3)).setCell ⟨w.heap.size + 1, 0, none⟩ (.int .i64 p0)).setCell ⟨w.heap.size + 1, 1, none⟩ (.int .i64 p1)).setCell ⟨w.heap.size + 1, 2, none⟩ (.int .i64 p2)).setCell ⟨w.heap.size + 1, 3, none⟩ (.int .i64 p3)) = w3 := ⟨_, rfl⟩
  rw [ew3] at hbr3 hba3 hb3 ⊢
  have HBR3 := Aside0.mk hbr3
  have HBA3 := Aside0.mk hba3
  have HB3 := Aside0.mk hb3
  clear hbr3 hba3 hb3 ew3 HB2 HBR2 HBA2 x0 x1 x2 x3 y0 y1 y2 y3 z0 z1 z2 z3 u0 u1 u2 u3
  obtain ⟨pp, e1, -, -⟩ := law_tree ⟨p0, p1, p2, p3⟩ 3 (by omega) ⟨q0, q1, q2, q3⟩ HRG.out l
  have hu := uses_tree ⟨p0, p1, p2, p3⟩ 3 ⟨q0, q1, q2, q3⟩ l
  obtain ⟨⟨L, rs⟩, hT⟩ : ∃ T, treeF 3 ⟨p0, p1, p2, p3⟩ ⟨q0, q1, q2, q3⟩ l = T := ⟨_, rfl⟩
  rw [hT] at e1 hu
  dsimp only at e1 hu
  have hLL : L.length ≤ 256 := by
    have := treeF_len ⟨p0, p1, p2, p3⟩ 3 ⟨q0, q1, q2, q3⟩ l
    rw [hT] at this
    exact this
  have E1 := Aside0.mk e1
  have HT := Aside0.mk hT
  have hlen : l.length = pp.length + rs.length := by
    have := congrArg List.length e1
    rwa [List.length_append] at this
  have hp21 : pp.length ≤ 21 := by
    have : uses 3 = 21 := rfl
    omega
  have hple : pp.length ≤ l.length := by omega
  clear e1 hT hu hlen
  refine (blocks_ok ⟨q0, q1, q2, q3⟩ ⟨p0, p1, p2, p3⟩ A c l pp rs L w3 HOK.out HFR.out HFA.out (Kd.C_below HC.out HB3.out) hc E1.out HT.out).mono ?_
  rintro e w4 ⟨v4, rfl, hr4, hb4⟩
  have hbr4 := (hb4.block _ (blk_lt HBR3.out)).trans HBR3.out
  have hba4 := (hb4.block _ (blk_lt HBA3.out)).trans HBA3.out
  obtain ⟨x0, x1, x2, x3⟩ := box_cells hbr4
  obtain ⟨y0, y1, y2, y3⟩ := box_cells hba4
  have HBR4 := Aside0.mk hbr4
  have HBA4 := Aside0.mk hba4
  have HB4 := Aside0.mk (HB3.out.trans (hb4.mono HB3.out.size))
  have HR4 := Aside0.mk hr4
  clear hbr4 hba4 hb4 hr4 HBR3 HBA3 HB3
  have hn21 : ¬ (pp.length : Int) > 21 := by omega
  have hok := HOK.out
  unfold blkOk areaB eightsB at hok
  simp only [Bool.and_eq_true, decide_eq_true_eq] at hok
  obtain ⟨hreg, hq2, hqx, hqy, ⟨g00, g01, g02⟩, ⟨g10, g11, g12⟩, ⟨g20, g21, g22⟩, g30, g31, g32⟩ := hok
  obtain ⟨-, hq3, hm0, hm1⟩ := regB_iff.1 hreg
  dsimp only at hq2 hqx hqy hq3 hm0 hm1 g00 g01 g02 g10 g11 g12 g20 g21 g22 g30 g31 g32
  have hal : Al ⟨p0, p1, p2, p3⟩ := ⟨g00, g10, g20, g30⟩
  have HBOTH := Aside0.mk (fun px py => tree_both ⟨p0, p1, p2, p3⟩ hal 3 (by omega) ⟨q0, q1, q2, q3⟩ HRG.out l px py)
  have HSUB := Aside0.mk (tree_sub ⟨p0, p1, p2, p3⟩ 3 (by omega) ⟨q0, q1, q2, q3⟩ HRG.out l)
  rw [HT.out] at HBOTH HSUB
  have HGOOD := Aside0.mk (fun x hx => sub_good (r := ⟨q0, q1, q2, q3⟩) (x := x) (by dsimp only; omega) (HSUB.out x hx))
  obtain ⟨A4, c4, rfl, hl4, hC4⟩ := Kd.R_reads HR4.out
  have HC4 := Aside0.mk hC4
  have hcov := cover_any ⟨q0, q1, q2, q3⟩ A4 c4 L w4 hC4 HGOOD.out (by dsimp only; omega) (by omega)
  have HCOV := Aside0.mk hcov
  have hf : ∀ j : Nat, j < 64 → cnt ⟨q0, q1, q2, q3⟩ L j = if In ⟨p0, p1, p2, p3⟩ (q0 + 8 * ((j : Int) % 8)) (q1 + 8 * ((j : Int) / 8)) then 1 else 0 := fun j hj => by
    rw [cnt_tot, HBOTH.out]
    dsimp only
    have e1 : ((j % 8 : Nat) : Int) = (j : Int) % 8 := by omega
    have e2 : ((j / 8 : Nat) : Int) = (j : Int) / 8 := by omega
    rw [e1, e2]
    unfold both
    have hin : In ⟨q0, q1, q2, q3⟩ (q0 + 8 * ((j : Int) % 8)) (q1 + 8 * ((j : Int) / 8)) := by unfold In; dsimp only; omega
    by_cases ha : In ⟨p0, p1, p2, p3⟩ (q0 + 8 * ((j : Int) % 8)) (q1 + 8 * ((j : Int) / 8))
    · rw [if_pos ⟨hin, ha⟩, if_pos ha]
    · rw [if_neg (fun e => ha e.2), if_neg ha]
  have HFF := Aside0.mk hf
  have HPL := Aside0.mk (show (0 ≤ q0 ∧ q0 ≤ 100000) ∧ (0 ≤ q1 ∧ q1 ≤ 100000) ∧ (0 ≤ p0 ∧ p0 ≤ 100000) ∧ (0 ≤ p1 ∧ p1 ≤ 100000) ∧ (0 ≤ p2 ∧ p2 ≤ 100000) ∧ (0 ≤ p3 ∧ p3 ≤ 100000) by omega)
  clear hreg hC4 hcov hal HSUB HGOOD HR4 HC4 hf hq2 hqx hqy hq3 hm0 hm1 g00 g01 g02 g10 g11 g12 g20 g21 g22 g30 g31 g32
  go_wp2_with fail
  refine HCOV.out.mono ?_
  rintro e w5 ⟨rfl, hb5⟩
  have hbr5 := (hb5.block _ (blk_lt HBR4.out)).trans HBR4.out
  have hba5 := (hb5.block _ (blk_lt HBA4.out)).trans HBA4.out
  have HB5 := Aside0.mk (HB4.out.trans (hb5.mono HB4.out.size))
  obtain ⟨F, hF⟩ : ∃ F, cnt ⟨q0, q1, q2, q3⟩ L = F := ⟨_, rfl⟩
  rw [hF] at HFF ⊢
  have hz := heap_alloc_new w5 (.cells (#[.int .i64 0, .int .i64 0, .int .i64 0, .int .i64 0, .int .i64 0, .int .i64 0, .int .i64 0, .int .i64 0, .int .i64 0, .int .i64 0, .int .i64 0, .int .i64 0, .int .i64 0, .int .i64 0, .int .i64 0, .int .i64 0, .int .i64 0, .int .i64 0, .int .i64 0, .int .i64 0, .int .i64 0, .int .i64 0, .int .i64 0, .int .i64 0, .int .i64 0, .int .i64 0, .int .i64 0, .int .i64 0, .int .i64 0, .int .i64 0, .int .i64 0, .int .i64 0, .int .i64 0, .int .i64 0, .int .i64 0, .int .i64 0, .int .i64 0, .int .i64 0, .int .i64 0, .int .i64 0, .int .i64 0, .int .i64 0, .int .i64 0, .int .i64 0, .int .i64 0, .int .i64 0, .int .i64 0, .int .i64 0, .int .i64 0, .int .i64 0, .int .i64 0, .int .i64 0, .int .i64 0, .int .i64 0, .int .i64 0, .int .i64 0, .int .i64 0, .int .i64 0, .int .i64 0, .int .i64 0, .int .i64 0, .int .i64 0, .int .i64 0, .int .i64 0]) 46)
  have HZ := Aside0.mk hz
  have HI := Aside0.mk (show (Try.prog.info? 46).map (·.size) = some (arrF F).size by rw [arrF_size]; exact info46)
  have HSZ := Aside0.mk (show (#[.int .i64 0, .int .i64 0, .int .i64 0, .int .i64 0, .int .i64 0, .int .i64 0, .int .i64 0, .int .i64 0, .int .i64 0, .int .i64 0, .int .i64 0, .int .i64 0, .int .i64 0, .int .i64 0, .int .i64 0, .int .i64 0, .int .i64 0, .int .i64 0, .int .i64 0, .int .i64 0, .int .i64 0, .int .i64 0, .int .i64 0, .int .i64 0, .int .i64 0, .int .i64 0, .int .i64 0, .int .i64 0, .int .i64 0, .int .i64 0, .int .i64 0, .int .i64 0, .int .i64 0, .int .i64 0, .int .i64 0, .int .i64 0, .int .i64 0, .int .i64 0, .int .i64 0, .int .i64 0, .int .i64 0, .int .i64 0, .int .i64 0, .int .i64 0, .int .i64 0, .int .i64 0, .int .i64 0, .int .i64 0, .int .i64 0, .int .i64 0, .int .i64 0, .int .i64 0, .int .i64 0, .int .i64 0, .int .i64 0, .int .i64 0, .int .i64 0, .int .i64 0, .int .i64 0, .int .i64 0, .int .i64 0, .int .i64 0, .int .i64 0, .int .i64 0] : Array Value).size = (arrF F).size by rw [arrF_size]; rfl)
  have HON := Aside0.mk (arrF_one F)
  have HBR5 := Aside0.mk hbr5
  have HBA5 := Aside0.mk hba5
  clear x0 x1 x2 x3 y0 y1 y2 y3 hb5 hbr5 hba5 hF hz HBR4 HBA4 HB4 HBOTH HCOV hn21
  go_wp2_with (with_reducible refine wpList_store_row rfl 46 (.tmp 10) (.tmp 52) rfl _ _ rfl rfl 46 _ HZ.out HI.out HSZ.out HON.out ?_)
  rw [World.setRow_alloc_new]
  have h6 := heap_alloc_new w5 (.cells (arrF F) 46)
  have hbr6 := old (o := .cells (arrF F) 46) HBR5.out
  have hba6 := old (o := .cells (arrF F) 46) HBA5.out
  have hb6 := below_alloc HB5.out (.cells (arrF F) 46)
  obtain ⟨w6, ew6⟩ : ∃ w6, w5.alloc (.cells (arrF F) 46) = w6 := ⟨_, rfl⟩
  obtain ⟨g6, eg6⟩ : ∃ g6, w5.heap.size = g6 := ⟨_, rfl⟩
  rw [ew6] at h6 hbr6 hba6 hb6
  rw [eg6] at h6
  rw [ew6, eg6]
  have HS := Aside0.mk (And.intro hbr6 (And.intro hba6 (And.intro h6 hb6)))
  clear ew6 eg6 hbr6 hba6 h6 hb6 HZ HI HSZ HON HBR5 HBA5 HB5
  go_loopw [12] (fun v12 wr => ∃ i : Nat, i ≤ 64 ∧ v12 = .int .i64 i ∧ Aside0 (wr.heap[w.heap.size]? = some (.cells #[.int .i64 q0, .int .i64 q1, .int .i64 q2, .int .i64 q3] 23 (0, 0)) ∧ wr.heap[w.heap.size + 1]? = some (.cells #[.int .i64 p0, .int .i64 p1, .int .i64 p2, .int .i64 p3] 23 (0, 0)) ∧ wr.heap[g6]? = some (.cells (arrF F) 46 (0, 0)) ∧ Below w.heap.size w wr)) (fun v12 _ => 64 - (intOf v12).toNat)
  case atStart => exact ⟨0, Nat.zero_le _, rfl, HS⟩
  case round =>
    clear HS
    obtain ⟨i, hi, rfl, HS⟩ := hrel
    by_cases hlt : i < 64
    · obtain ⟨x0, x1, x2, x3⟩ := box_cells HS.out.1
      obtain ⟨y0, y1, y2, y3⟩ := box_cells HS.out.2.1
      have k0 : wr.cell? ⟨g6, i, none⟩ = some (.int .i64 (F i)) := (blk_cell HS.out.2.2.1 i).trans (arrF_get F i hlt)
      have hfi := HFF.out i hlt
      obtain ⟨⟨a0, a1⟩, ⟨a2, a3⟩, ⟨a4, a5⟩, ⟨a6, a7⟩, ⟨a8, a9⟩, a10, a11⟩ := HPL.out
      go_wp2_with fail
      have hin : In ⟨p0, p1, p2, p3⟩ (q0 + 8 * ((i : Int) % 8)) (q1 + 8 * ((i : Int) / 8)) ↔ (p0 ≤ q0 + 8 * ((i : Int) % 8) ∧ q0 + 8 * ((i : Int) % 8) < p0 + p2) ∧ (p1 ≤ q1 + 8 * ((i : Int) / 8) ∧ q1 + 8 * ((i : Int) / 8) < p1 + p3) := Iff.rfl
      simp only [hin] at hfi
      obtain ⟨xm, hxm⟩ : ∃ xm, (i : Int) % 8 = xm := ⟨_, rfl⟩
      obtain ⟨ym, hym⟩ : ∃ ym, (i : Int) / 8 = ym := ⟨_, rfl⟩
      have m0 : 0 ≤ xm ∧ xm ≤ 7 := by omega
      have m1 : 0 ≤ ym ∧ ym ≤ 7 := by omega
      rw [hxm, hym] at hfi
      have hcs : (p0 ≤ q0 + 8 * xm ∧ q0 + 8 * xm < p0 + p2 ∧ p1 ≤ q1 + 8 * ym ∧ q1 + 8 * ym < p1 + p3 ∧ F i = 1) ∨ (q0 + 8 * xm < p0 ∧ F i = 0) ∨ (p0 ≤ q0 + 8 * xm ∧ p0 + p2 ≤ q0 + 8 * xm ∧ F i = 0) ∨ (p0 ≤ q0 + 8 * xm ∧ q0 + 8 * xm < p0 + p2 ∧ q1 + 8 * ym < p1 ∧ F i = 0) ∨ (p0 ≤ q0 + 8 * xm ∧ q0 + 8 * xm < p0 + p2 ∧ p1 ≤ q1 + 8 * ym ∧ p1 + p3 ≤ q1 + 8 * ym ∧ F i = 0) := by
        rw [hfi]
        clear hfi hin
        split <;> omega
      clear hfi hin
      rcases hcs with ⟨t1, t2, t3, t4, te⟩ | ⟨t1, te⟩ | ⟨t1, t2, te⟩ | ⟨t1, t2, t3, te⟩ | ⟨t1, t2, t3, t4, te⟩
      · rw [te] at k0
        clear te
        go_quiet (fail)
        go_wp2_with fail
        exact ⟨⟨i + 1, by omega, rfl, ⟨HS.out.1, HS.out.2.1, HS.out.2.2.1, pw_below_drewN HS.out.2.2.2 _⟩⟩, by simp [intOf]; omega⟩
      · rw [te] at k0
        clear te
        go_quiet (fail)
        go_wp2_with fail
        exact ⟨⟨i + 1, by omega, rfl, ⟨HS.out.1, HS.out.2.1, HS.out.2.2.1, pw_below_drewN HS.out.2.2.2 _⟩⟩, by simp [intOf]; omega⟩
      · rw [te] at k0
        clear te
        go_quiet (fail)
        go_wp2_with fail
        exact ⟨⟨i + 1, by omega, rfl, ⟨HS.out.1, HS.out.2.1, HS.out.2.2.1, pw_below_drewN HS.out.2.2.2 _⟩⟩, by simp [intOf]; omega⟩
      · rw [te] at k0
        clear te
        go_quiet (fail)
        go_wp2_with fail
        exact ⟨⟨i + 1, by omega, rfl, ⟨HS.out.1, HS.out.2.1, HS.out.2.2.1, pw_below_drewN HS.out.2.2.2 _⟩⟩, by simp [intOf]; omega⟩
      · rw [te] at k0
        clear te
        go_quiet (fail)
        go_wp2_with fail
        exact ⟨⟨i + 1, by omega, rfl, ⟨HS.out.1, HS.out.2.1, HS.out.2.2.1, pw_below_drewN HS.out.2.2.2 _⟩⟩, by simp [intOf]; omega⟩
    · obtain rfl : i = 64 := by omega
      go_wp2_with fail
      go_ret
      exact ⟨rfl, HS.out.2.2.2⟩

theorem law_tiles (n0 n1 n2 n3 m0 m1 m2 m3 : Int) (a : Option Addr) (len cap : Nat) (zs : List Int) (W : World) (_ : (Lit.int .i64 n0).wf = true) (_ : (Lit.int .i64 n1).wf = true) (_ : (Lit.int .i64 n2).wf = true) (_ : (Lit.int .i64 n3).wf = true) (_ : (Lit.int .i64 m0).wf = true) (_ : (Lit.int .i64 m1).wf = true) (_ : (Lit.int .i64 m2).wf = true) (_ : (Lit.int .i64 m3).wf = true) (hr : Open.IsRow .i64 W a len cap zs) (_ : cap * 8 ≤ 140737488351232) :
    Calls Try.prog 7 #[.agg #[.int .i64 n0, .int .i64 n1, .int .i64 n2, .int .i64 n3], .agg #[.int .i64 m0, .int .i64 m1, .int .i64 m2, .int .i64 m3], .slice a len cap] W fun e w' => e = .returned (.bool true) ∧ Below W.heap.size W w' := by
  obtain ⟨hl, hlc, hC, -⟩ := Rc.row_C hr
  have h := tiles_walk a cap (zs.take len) ⟨n0, n1, n2, n3⟩ ⟨m0, m1, m2, m3⟩ W hC (by omega)
  rw [hl] at h
  exact h
end Go.Proofs.Ytjobfnicnoffmaa.Lt
