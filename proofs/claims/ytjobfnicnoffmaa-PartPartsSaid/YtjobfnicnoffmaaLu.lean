/- The walk of the law PartUsed. -/
import Derived.Test.YtjobfnicnoffmaaBr
import Derived.Test.YtjobfnicnoffmaaRc
import Derived.Deep.RegionHeld3
import Derived.Deep.DeepCutAuto
namespace Go.Proofs.Ytjobfnicnoffmaa.Lu
open Go.RowKit Go.Proofs.Ytjobfnicnoffmaa.PPartTrees Go.Proofs.YtjobfnicnoffmaaW.PrintWords Go.Proofs.YtjobfnicnoffmaaW.PrintLast Go.Proofs.YtjobfnicnoffmaaW.PrintMore Go.Proofs.Ytjobfnicnoffmaa.Pt Go.Proofs.Ytjobfnicnoffmaa.Ph Go.Proofs.Ytjobfnicnoffmaa.Li Go.Proofs.Ytjobfnicnoffmaa.Pc Go.Proofs.Ytjobfnicnoffmaa.Tr Go.Proofs.Ytjobfnicnoffmaa.Bk Go.Proofs.Ytjobfnicnoffmaa.Wk Go.Proofs.Ytjobfnicnoffmaa.Pu Go.Proofs.Ytjobfnicnoffmaa.Br

theorem set_row4 {w : World} {g t : Nat} {x0 x1 x2 x3 : Value} (a b c d : Value) (h : w.heap[g]? = some (.cells #[x0, x1, x2, x3] t (0, 0))) :
    ((((w.setCell ⟨g, 0, none⟩ a).setCell ⟨g, 1, none⟩ b).setCell ⟨g, 2, none⟩ c).setCell ⟨g, 3, none⟩ d).heap[g]? = some (.cells #[a, b, c, d] t (0, 0)) := by
  have h1 := heap_setCell_same w g 0 _ t a h
  have h2 := heap_setCell_same _ g 1 _ t b h1
  have h3 := heap_setCell_same _ g 2 _ t c h2
  exact heap_setCell_same _ g 3 _ t d h3
theorem set_other4 {w : World} {g k : Nat} {o : Obj} (a b c d : Value) (h : w.heap[k]? = some o) (hk : k ≠ g) :
    ((((w.setCell ⟨g, 0, none⟩ a).setCell ⟨g, 1, none⟩ b).setCell ⟨g, 2, none⟩ c).setCell ⟨g, 3, none⟩ d).heap[k]? = some o := by
  rw [heap_setCell_other _ _ _ _ hk, heap_setCell_other _ _ _ _ hk, heap_setCell_other _ _ _ _ hk, heap_setCell_other _ _ _ _ hk]; exact h
theorem set_below4 {w w0 : World} {g B : Nat} (a b c d : Value) (h : Below B w0 w) (hg : B ≤ g) : Below B w0 ((((w.setCell ⟨g, 0, none⟩ a).setCell ⟨g, 1, none⟩ b).setCell ⟨g, 2, none⟩ c).setCell ⟨g, 3, none⟩ d) :=
  (((h.setCell hg _).setCell hg _).setCell hg _).setCell hg _

/-- Blocks where it may be asked: the choices that it used stand ahead. -/
theorem blocks_ok (r a : S23) (A : Option Addr) (c : Nat) (l pp rs : List Int) (L : List S23) (w : World) (hok : blkOk r a = true) (hr : Fits r) (ha : Fits a) (hC : Kd.C (Kd.int .i64) w A l.length l) (hc : l.length ≤ c) (hl : l = pp ++ rs) (hT : treeF 3 a r l = (L, rs)) :
    Calls Try.prog 11 #[aggS r, aggS a, .slice A l.length c] w fun e w' => ∃ v, e = .returned (.tuple #[v, .int .i64 (pp.length : Int), .int .i64 0]) ∧ Kd.R k23 23 w' w.heap.size (fun _ => True) v L ∧ Below w.heap.size w w' := by
  have h := blocks_any r a A c l w hr ha hC hc
  have e1 : blkErr r a = 0 := by unfold blkErr; rw [hok]; rfl
  have e2 : blkUsed r a l = (pp.length : Int) := by
    unfold blkUsed
    rw [hok, hT, if_pos rfl]
    have := congrArg List.length hl
    rw [List.length_append] at this
    dsimp only
    omega
  have e3 : blkAns r a l = L := by unfold blkAns; rw [hok, hT]; rfl
  rw [e1, e2, e3] at h
  exact h
/-- The first i, turned. -/
def trn (pp : List Int) (i : Nat) : List Int := (List.range i).map fun j => pp.getD j 0 % 40 - 40 * ((j : Int) % 3)
theorem trn_succ (pp : List Int) (i : Nat) : trn pp i ++ [pp.getD i 0 % 40 - 40 * ((i : Int) % 3)] = trn pp (i + 1) := by
  unfold trn; rw [List.range_succ, List.map_append]; rfl
theorem trn_length (pp : List Int) (i : Nat) : (trn pp i).length = i := by simp [trn]
theorem trn_like (pp : List Int) : Like (trn pp pp.length) pp := by
  unfold Like trn
  rw [List.map_map]
  apply List.ext_getElem
  · simp
  · intro i h1 h2
    have hi : i < pp.length := by simpa using h2
    simp only [List.getElem_map, List.getElem_range, Function.comp]
    rw [List.getD_eq_getElem?_getD, List.getElem?_eq_getElem hi]
    show (pp[i] % 40 - 40 * ((i : Int) % 3)) % 40 = _
    omega

set_option maxRecDepth 100000 in
set_option maxHeartbeats 4000000 in
theorem used_walk (A : Option Addr) (c : Nat) (l : List Int) (r a : S23) (w : World) (hC : Kd.C (Kd.int .i64) w A l.length l) (hc : l.length ≤ c) :
    Calls Try.prog 3 #[aggS r, aggS a, .slice A l.length c] w fun e w' => e = .returned (.bool true) ∧ Below w.heap.size w w' := by
  have HC := Aside0.mk hC
  clear hC
  have HBR := Aside0.mk (fun w => brought_any r a w)
  obtain ⟨f0, f1, f2, f3⟩ := r
  obtain ⟨b0, b1, b2, b3⟩ := a
  have hok := br_ok ⟨f0, f1, f2, f3⟩ ⟨b0, b1, b2, b3⟩
  have hrg := br_reg ⟨f0, f1, f2, f3⟩
  obtain ⟨hfr, hfa⟩ := br_fits ⟨f0, f1, f2, f3⟩ ⟨b0, b1, b2, b3⟩
  obtain ⟨⟨q0, q1, q2, q3⟩, hq⟩ : ∃ q, brR ⟨f0, f1, f2, f3⟩ = q := ⟨_, rfl⟩
  obtain ⟨⟨p0, p1, p2, p9⟩, hp⟩ : ∃ p, brA ⟨b0, b1, b2, b3⟩ = p := ⟨_, rfl⟩
  rw [hq, hp] at HBR
  rw [hq, hp] at hok
  rw [hq] at hrg hfr
  rw [hp] at hfa
  have HOK := Aside0.mk hok
  have HRG := Aside0.mk hrg
  have HFR := Aside0.mk hfr
  have HFA := Aside0.mk hfa
  clear hq hp hok hrg hfr hfa
  dsimp only [aggS] at HBR ⊢
  go_enter Try.func3, Try.ntmps3
  go_wp2_with fail
  refine (works_any _).mono ?_
  rintro e w1 ⟨rfl, hb1⟩
  have hbr : w1.heap[w.heap.size]? = some (.cells #[.int .i64 f0, .int .i64 f1, .int .i64 f2, .int .i64 f3] 23 (0, 0)) := (hb1.block _ (by simp; omega)).trans (old (heap_alloc_new w _))
  have hba : w1.heap[w.heap.size + 1]? = some (.cells #[.int .i64 b0, .int .i64 b1, .int .i64 b2, .int .i64 b3] 23 (0, 0)) := by
    have := heap_alloc_new (w.alloc (.cells #[.int .i64 f0, .int .i64 f1, .int .i64 f2, .int .i64 f3] 23)) (.cells #[.int .i64 b0, .int .i64 b1, .int .i64 b2, .int .i64 b3] 23)
    rw [show (w.alloc (.cells #[.int .i64 f0, .int .i64 f1, .int .i64 f2, .int .i64 f3] 23)).heap.size = w.heap.size + 1 by simp] at this
    exact (hb1.block _ (by simp)).trans this
  have HB1 := Aside0.mk (below_step (below_alloc (below_alloc (Below.refl w.heap.size w) _) _) hb1)
  clear hb1
  obtain ⟨x0, x1, x2, x3⟩ := box_cells hbr
  obtain ⟨y0, y1, y2, y3⟩ := box_cells hba
  go_wp2_with fail
  refine (HBR.out _).mono ?_
  rintro e w2 ⟨rfl, hb2⟩
  have hbr2 := (hb2.block _ (blk_lt hbr)).trans hbr
  have hba2 := (hb2.block _ (blk_lt hba)).trans hba
  clear x0 x1 x2 x3 y0 y1 y2 y3
  have HB2 := Aside0.mk (below_step HB1.out hb2)
  have HBR2 := Aside0.mk hbr2
  have HBA2 := Aside0.mk hba2
  obtain ⟨x0, x1, x2, x3⟩ := box_cells hbr2
  obtain ⟨y0, y1, y2, y3⟩ := box_cells hba2
  have z0 := frozen_of_row w2 w.heap.size 0 _ 23 hbr2
  have z1 := frozen_of_row w2 w.heap.size 1 _ 23 hbr2
  have z2 := frozen_of_row w2 w.heap.size 2 _ 23 hbr2
  have z3 := frozen_of_row w2 w.heap.size 3 _ 23 hbr2
  have u0 := frozen_of_row w2 (w.heap.size + 1) 0 _ 23 hba2
  have u1 := frozen_of_row w2 (w.heap.size + 1) 1 _ 23 hba2
  have u2 := frozen_of_row w2 (w.heap.size + 1) 2 _ 23 hba2
  have u3 := frozen_of_row w2 (w.heap.size + 1) 3 _ 23 hba2
  clear hb2 hbr hba hbr2 hba2 HB1 HBR
  go_wp2_with fail
  have hbr3 := set_other4 (g := w.heap.size + 1) (.int .i64 p0) (.int .i64 p1) (.int .i64 p2) (.int .i64 p9) (set_row4 (.int .i64 q0) (.int .i64 q1) (.int .i64 q2) (.int .i64 q3) HBR2.out) (by omega)
  have hba3 := set_row4 (.int .i64 p0) (.int .i64 p1) (.int .i64 p2) (.int .i64 p9) (set_other4 (g := w.heap.size) (.int .i64 q0) (.int .i64 q1) (.int .i64 q2) (.int .i64 q3) HBA2.out (by omega))
  have hb3 := set_below4 (g := w.heap.size + 1) (.int .i64 p0) (.int .i64 p1) (.int .i64 p2) (.int .i64 p9) (set_below4 (g := w.heap.size) (.int .i64 q0) (.int .i64 q1) (.int .i64 q2) (.int .i64 q3) HB2.out (Nat.le_refl _)) (by omega)
  obtain ⟨w3, ew3⟩ : ∃ w3, ((((((((w2.setCell ⟨w.heap.size, 0, none⟩ (.int .i64 q0)).setCell ⟨w.heap.size, 1, none⟩ (.int .i64 q1)).setCell ⟨w.heap.size, 2, none⟩ (.int .i64 q2)).setCell ⟨w.heap.size, 3, none⟩ (.int .i64 q3)).setCell ⟨w.heap.size + 1, 0, none⟩ (.int .i64 p0)).setCell ⟨w.heap.size + 1, 1, none⟩ (.int .i64 p1)).setCell ⟨w.heap.size + 1, 2, none⟩ (.int .i64 p2)).setCell ⟨w.heap.size + 1, 3, none⟩ (.int .i64 p9)) = w3 := ⟨_, rfl⟩
  rw [ew3] at hbr3 hba3 hb3 ⊢
  have HBR3 := Aside0.mk hbr3
  have HBA3 := Aside0.mk hba3
  have HB3 := Aside0.mk hb3
  clear hbr3 hba3 hb3 ew3 HB2 HBR2 HBA2 x0 x1 x2 x3 y0 y1 y2 y3 z0 z1 z2 z3 u0 u1 u2 u3
  obtain ⟨pp, e1, a1, b1⟩ := law_tree ⟨p0, p1, p2, p9⟩ 3 (by omega) ⟨q0, q1, q2, q3⟩ HRG.out l
  have hu := uses_tree ⟨p0, p1, p2, p9⟩ 3 ⟨q0, q1, q2, q3⟩ l
  obtain ⟨⟨L, rs⟩, hT⟩ : ∃ T, treeF 3 ⟨p0, p1, p2, p9⟩ ⟨q0, q1, q2, q3⟩ l = T := ⟨_, rfl⟩
  rw [hT] at e1 a1 b1 hu
  dsimp only at e1 a1 b1 hu
  have hLL : L.length ≤ 256 := by
    have := treeF_len ⟨p0, p1, p2, p9⟩ 3 ⟨q0, q1, q2, q3⟩ l
    rw [hT] at this
    exact this
  have E1 := Aside0.mk e1
  have A1 := Aside0.mk a1
  have B1 := Aside0.mk b1
  have HT := Aside0.mk hT
  have hlen : l.length = pp.length + rs.length := by
    have := congrArg List.length e1
    rwa [List.length_append] at this
  have hp21 : pp.length ≤ 21 := by
    have : uses 3 = 21 := rfl
    omega
  have hmax := Kd.C_max HC.out
  have HLEN := Aside0.mk hlen
  have hple : pp.length ≤ l.length := by omega
  clear e1 a1 b1 hT hu hlen
  refine (blocks_ok ⟨q0, q1, q2, q3⟩ ⟨p0, p1, p2, p9⟩ A c l pp rs L w3 HOK.out HFR.out HFA.out (Kd.C_below HC.out HB3.out) hc E1.out HT.out).mono ?_
  rintro e w4 ⟨v4, rfl, hr4, hb4⟩
  have hbr4 := (hb4.block _ (blk_lt HBR3.out)).trans HBR3.out
  have hba4 := (hb4.block _ (blk_lt HBA3.out)).trans HBA3.out
  obtain ⟨x0, x1, x2, x3⟩ := box_cells hbr4
  obtain ⟨y0, y1, y2, y3⟩ := box_cells hba4
  have HBR4 := Aside0.mk hbr4
  have HBA4 := Aside0.mk hba4
  have HB4 := Aside0.mk (HB3.out.trans (hb4.mono HB3.out.size))
  have HR4 := Aside0.mk hr4
  clear hbr4 hba4 hb4 hr4 HBR3 HBA3 HB3
  have htake : l.take pp.length = pp := by rw [E1.out, List.take_left']; rfl
  have hct := Kd.C_take HC.out hple
  rw [htake] at hct
  have HCT := Aside0.mk hct
  have HP2 := Aside0.mk (fun (w' : World) (hb : Below w.heap.size w w') => blocks_ok ⟨q0, q1, q2, q3⟩ ⟨p0, p1, p2, p9⟩ A c pp pp [] L w' HOK.out HFR.out HFA.out (Kd.C_below HCT.out hb) (by omega) (by simp) A1.out)
  dsimp only [aggS] at HP2
  clear htake hct
  have i1 : (0 : Int) ≤ (pp.length : Int) := by omega
  have i2 : (pp.length : Int) ≤ (c : Int) := by omega
  go_upto_region 7 with fail
  go_cut [10, 11, 12] (fun s10 s11 s12 wx => s11 = .int .i64 pp.length ∧ s12 = .int .i64 0 ∧ Aside0 (Kd.R k23 23 wx w4.heap.size (fun _ => True) s10 L) ∧ Aside0 (Below w4.heap.size w4 wx))
  case first =>
    go_region_held3 (fun w' => w'.cell? ⟨w.heap.size, 0, none⟩ = some (.int .i64 q0) ∧ w'.cell? ⟨w.heap.size, 1, none⟩ = some (.int .i64 q1) ∧ w'.cell? ⟨w.heap.size, 2, none⟩ = some (.int .i64 q2) ∧ w'.cell? ⟨w.heap.size, 3, none⟩ = some (.int .i64 q3) ∧ w'.cell? ⟨w.heap.size + 1, 0, none⟩ = some (.int .i64 p0) ∧ w'.cell? ⟨w.heap.size + 1, 1, none⟩ = some (.int .i64 p1) ∧ w'.cell? ⟨w.heap.size + 1, 2, none⟩ = some (.int .i64 p2) ∧ w'.cell? ⟨w.heap.size + 1, 3, none⟩ = some (.int .i64 p9)) (first | exact ⟨x0, x1, x2, x3, y0, y1, y2, y3⟩ | exact ⟨k0, k1, k2, k3, j0, j1, j2, j3⟩) ((go_at_call 11; refine (HP2.out _ (by repeat (first | exact HB4.out | apply below_drew1 | apply pw_below_drewN))).mono ?_; rintro e w5 ⟨v5, rfl, hr5, hb5⟩; obtain ⟨k0, k1, k2, k3⟩ := box_cells ((hb5.block _ (blk_lt HBR4.out)).trans HBR4.out); obtain ⟨j0, j1, j2, j3⟩ := box_cells ((hb5.block _ (blk_lt HBA4.out)).trans HBA4.out)))
    go_wp2_with fail
    go_meet
    exact ⟨rfl, rfl, ⟨hr5⟩, ⟨below_step (by repeat (first | exact Below.refl _ _ | apply below_drew1 | apply pw_below_drewN)) hb5⟩⟩
  case rest =>
    obtain ⟨rfl, rfl, HR5, HB5⟩ := hcut
    clear x0 x1 x2 x3 y0 y1 y2 y3
    have HR4' := Aside0.mk (Kd.R_below HR4.out HB5.out)
    have HBR5 := Aside0.mk ((HB5.out.block _ (blk_lt HBR4.out)).trans HBR4.out)
    have HBA5 := Aside0.mk ((HB5.out.block _ (blk_lt HBA4.out)).trans HBA4.out)
    have HBW := Aside0.mk (HB4.out.trans (HB5.out.mono HB4.out.size))
    clear HR4 HBR4 HBA4 HB4 HB5
    generalize wc = w5 at *
    have HO : Aside0 (Kd.R (Kd.int .i64) 3 w5 w5.heap.size (fun _ => True) (.slice none 0 0) (trn pp 0)) := ⟨Kd.R_nil _ _ _ _ _⟩
    have HBB := Aside0.mk (Below.refl w5.heap.size w5)
    go_wp2_with fail
    go_loopw [13, 14] (fun v13 v14 wr => ∃ i : Nat, i ≤ pp.length ∧ v14 = .int .i64 i ∧ Aside0 (Kd.R (Kd.int .i64) 3 wr w5.heap.size (fun _ => True) v13 (trn pp i)) ∧ Aside0 (Below w5.heap.size w5 wr)) (fun _ v14 _ => pp.length - (intOf v14).toNat)
    case atStart => exact ⟨0, Nat.zero_le _, rfl, HO, HBB⟩
    case round =>
      clear HO HBB
      obtain ⟨i, hi, rfl, HO, HB⟩ := hrel
      by_cases hlt : i < pp.length
      · obtain ⟨ad, rfl, hx⟩ := Kd.at_int (Kd.C_below (Kd.C_below HC.out HBW.out) HB.out) (i : Int) (by omega) (by omega)
        have hg : rd l (i : Int) = pp.getD i 0 := by
          show l.getD (i : Int).toNat 0 = _
          rw [Int.toNat_natCast, E1.out, List.getD_eq_getElem?_getD, List.getD_eq_getElem?_getD, List.getElem?_append_left hlt]
        rw [hg, Int.toNat_natCast] at hx
        have hx2 : wr.cell? (ad.add i) = some (.int .i64 (pp.getD i 0)) := hx
        have hs := trn_succ pp i
        obtain ⟨x, ex⟩ : ∃ x, pp.getD i 0 = x := ⟨_, rfl⟩
        rw [ex] at hx2 hs
        have HS := Aside0.mk hs
        clear hx hg hs ex
        have hi21 : i ≤ 21 := by omega
        have m1 : 0 ≤ x % 40 ∧ x % 40 < 40 := by omega
        have m2 : 0 ≤ (i : Int) % 3 ∧ (i : Int) % 3 < 3 := by omega
        go_wp2_with fail
        refine (bring_any x 40 _ (by omega) (by omega)).mono ?_
        rintro e w' ⟨rfl, ⟨nd, rfl⟩⟩
        have HO6 := Aside0.mk (Kd.R_drewN HO.out nd)
        have HB6 := Aside0.mk (pw_below_drewN HB.out nd)
        go_wp2_with ((with_reducible refine gate_builtin (b := .append) (xs := #[.tmp 61, .tmp 71]) rfl ?_); at_builtin; refine Kd.R_append (Kd.int .i64) (w0 := w5) w5.heap.size rfl (.tmp 61) (.tmp 71) 24 3 (.int .i64 0) 8 rfl Try.underlying24 info3 rfl (by decide) (by omega) u13 (trn pp i) (x % 40 - 40 * ((i : Int) % 3)) [.int .i64 (x % 40 - 40 * ((i : Int) % 3))] (fun _ => True) (fun _ => False) rfl rfl rfl (fun _ hk => hk.elim) (fun _ _ => trivial) HO6.out HB6.out (below_size HB6.out) (by rw [trn_length]; omega) ?_; intro v72 w6 ho hb hg hat)
        exact ⟨⟨i + 1, by omega, rfl, ⟨by rw [← HS.out]; exact ho⟩, ⟨hb⟩⟩, by simp [intOf]; omega⟩
      · obtain rfl : i = pp.length := by omega
        clear hlt hi
        have hl3 := fun W => lit_C3 (w := (W : World).alloc (.cells #[.int .i64 3, .int .i64 3, .int .i64 3] 3)) [3, 3, 3] (by decide) (heap_alloc_new W _)
        have HL3 := Aside0.mk (hl3 wr)
        have HO7 := Aside0.mk (Kd.R_alloc HO.out (.cells #[.int .i64 3, .int .i64 3, .int .i64 3] 3))
        have HB7 := Aside0.mk (below_alloc HB.out (.cells #[.int .i64 3, .int .i64 3, .int .i64 3] 3))
        clear hl3
        obtain ⟨p3, L3, rs3, hT3, he3, hge, hcase⟩ : ∃ p3 L3 rs3, treeF 3 ⟨p0, p1, p2, p9⟩ ⟨q0, q1, q2, q3⟩ (trn pp pp.length ++ [3, 3, 3]) = (L3, rs3) ∧ trn pp pp.length ++ [3, 3, 3] = p3 ++ rs3 ∧ pp.length ≤ p3.length ∧ (rs ≠ [] → L3 = L ∧ p3.length = pp.length) := by
          obtain ⟨b11, b12⟩ := B1.out (trn pp pp.length) (trn_like pp)
          by_cases hrs : rs = []
          · obtain ⟨p3, he⟩ := treeF_rest ⟨p0, p1, p2, p9⟩ 3 ⟨q0, q1, q2, q3⟩ (trn pp pp.length ++ [3, 3, 3])
            refine ⟨p3, _, _, rfl, he, ?_, fun h => absurd hrs h⟩
            have h1 := b12 [3, 3, 3]
            have h2 := congrArg List.length he
            rw [List.length_append, List.length_append, trn_length] at h2
            simp only [List.length_cons, List.length_nil] at h1 h2
            omega
          · exact ⟨trn pp pp.length, L, [3, 3, 3], b11 hrs _, rfl, by rw [trn_length]; exact Nat.le_refl _, fun _ => ⟨rfl, trn_length _ _⟩⟩
        obtain ⟨TT, hTT⟩ : ∃ TT, trn pp pp.length ++ [3, 3, 3] = TT := ⟨_, rfl⟩
        have HTT := Aside0.mk hTT
        have HT3 := Aside0.mk (hTT ▸ hT3)
        have HE3 := Aside0.mk (hTT ▸ he3)
        have HCASE := Aside0.mk hcase
        have hlt3 : (trn pp pp.length ++ [3, 3, 3]).length = pp.length + 3 := by rw [List.length_append, trn_length]; rfl
        have hp3 : p3.length ≤ pp.length + 3 := by
          have := congrArg List.length he3
          rw [hlt3, List.length_append] at this
          omega
        have hL3 : L3.length ≤ 256 := by
          have := treeF_len ⟨p0, p1, p2, p9⟩ 3 ⟨q0, q1, q2, q3⟩ (trn pp pp.length ++ [3, 3, 3])
          rw [hT3] at this
          exact this
        have HLT3 := Aside0.mk hlt3
        clear hT3 he3 hcase hlt3 hTT
        go_wp2_with ((with_reducible refine gate_builtin (b := .append) (xs := #[.tmp 73, .tmp 74]) rfl ?_); at_builtin; refine Kd.R_append_rows (Kd.int .i64) (w0 := w5) w5.heap.size rfl (.tmp 73) (.tmp 74) 24 3 (.int .i64 0) 8 rfl Try.underlying24 info3 rfl (by decide) (by omega) u13 (trn pp pp.length) [3, 3, 3] _ _ _ (fun _ => True) (fun _ => False) rfl rfl HO7.out HL3.out (fun _ _ h => h) (fun _ hk => hk.elim) (fun _ _ => trivial) HB7.out (below_size HB7.out) (by rw [trn_length]; omega) ?_; intro v75 w7 ho hb hg hat; rw [HTT.out] at ho; obtain ⟨A7, c7, rfl, hl7, hC7⟩ := Kd.R_reads ho; have HC7 := Aside0.mk hC7; have HB8 := Aside0.mk hb; obtain ⟨x0, x1, x2, x3⟩ := box_cells ((hb.block _ (blk_lt HBR5.out)).trans HBR5.out); obtain ⟨y0, y1, y2, y3⟩ := box_cells ((hb.block _ (blk_lt HBA5.out)).trans HBA5.out); clear ho hb hg hat hC7)
        refine (blocks_ok ⟨q0, q1, q2, q3⟩ ⟨p0, p1, p2, p9⟩ A7 c7 TT p3 rs3 L3 w7 HOK.out HFR.out HFA.out HC7.out hl7 HE3.out HT3.out).mono ?_
        rintro e w8 ⟨v8, rfl, hr8, hb8⟩
        have HB9 := Aside0.mk (HB8.out.trans (hb8.mono HB8.out.size))
        have HR9 := Aside0.mk (Kd.R_below HR5.out HB9.out)
        have HR4'' := Aside0.mk (Kd.R_below HR4'.out HB9.out)
        have HR8 := Aside0.mk hr8
        clear hr8 hb8 x0 x1 x2 x3 y0 y1 y2 y3
        obtain ⟨Aa, ca, rfl, hla, hCa⟩ := Kd.R_reads HR4''.out
        obtain ⟨Ab, cb, rfl, hlb, hCb⟩ := Kd.R_reads HR9.out
        obtain ⟨Ac, cc, rfl, hlc, hCc⟩ := Kd.R_reads HR8.out
        have HCa := Aside0.mk hCa
        have HCb := Aside0.mk hCb
        have HCc := Aside0.mk hCc
        clear hCa hCb hCc
        have hge2 : decide (p3.length < pp.length) = false := decide_eq_false (by omega)
        by_cases hrs : rs = []
        · have hnl : ((pp.length : Int) == (l.length : Int)) = true := by
            have := HLEN.out
            rw [hrs] at this
            simp at this
            rw [this]; simp
          clear hrs
          go_wp2_with fail
          refine (same_any Aa Ab ca cb L _ HCa.out hla HCb.out hlb (by omega)).mono ?_
          rintro e w' ⟨rfl, ⟨nd, rfl⟩⟩
          go_wp2_with fail
          go_ret
          exact ⟨rfl, pw_below_drewN (HBW.out.trans (HB9.out.mono HBW.out.size)) _⟩
        · obtain ⟨rfl, hpe⟩ := HCASE.out hrs
          have hnl : ((pp.length : Int) == (l.length : Int)) = false := by
            have h1 := HLEN.out
            have h2 : 0 < rs.length := List.length_pos_iff.2 hrs
            exact beq_eq_false_iff_ne.2 (by omega)
          have hke : ((p3.length : Int) == (pp.length : Int)) = true := by rw [hpe]; simp
          clear hrs hpe
          go_wp2_with fail
          refine (same_any Aa Ab ca cb L3 _ HCa.out hla HCb.out hlb (by omega)).mono ?_
          rintro e w' ⟨rfl, ⟨nd, rfl⟩⟩
          go_wp2_with fail
          refine (same_any Aa Ac ca cc L3 _ (Kd.C_drewN HCa.out _) hla (Kd.C_drewN HCc.out _) hlc (by omega)).mono ?_
          rintro e w' ⟨rfl, ⟨nd2, rfl⟩⟩
          go_wp2_with fail
          go_ret
          exact ⟨rfl, pw_below_drewN (HBW.out.trans (HB9.out.mono HBW.out.size)) _⟩

theorem law_used (n0 n1 n2 n3 m0 m1 m2 m3 : Int) (a : Option Addr) (len cap : Nat) (zs : List Int) (W : World) (_ : (Lit.int .i64 n0).wf = true) (_ : (Lit.int .i64 n1).wf = true) (_ : (Lit.int .i64 n2).wf = true) (_ : (Lit.int .i64 n3).wf = true) (_ : (Lit.int .i64 m0).wf = true) (_ : (Lit.int .i64 m1).wf = true) (_ : (Lit.int .i64 m2).wf = true) (_ : (Lit.int .i64 m3).wf = true) (hr : Open.IsRow .i64 W a len cap zs) (_ : cap * 8 ≤ 140737488351232) :
    Calls Try.prog 3 #[.agg #[.int .i64 n0, .int .i64 n1, .int .i64 n2, .int .i64 n3], .agg #[.int .i64 m0, .int .i64 m1, .int .i64 m2, .int .i64 m3], .slice a len cap] W fun e w' => e = .returned (.bool true) ∧ Below W.heap.size W w' := by
  obtain ⟨hl, hlc, hC, -⟩ := Rc.row_C hr
  have h := used_walk a cap (zs.take len) ⟨n0, n1, n2, n3⟩ ⟨m0, m1, m2, m3⟩ W hC (by omega)
  rw [hl] at h
  exact h
end Go.Proofs.Ytjobfnicnoffmaa.Lu
