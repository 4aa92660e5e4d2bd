/- The walk of the law PartTrees. -/
import Derived.Test.YtjobfnicnoffmaaGl
import Derived.Test.YtjobfnicnoffmaaBk
import Derived.Test.YtjobfnicnoffmaaWk
import Derived.Test.YtjobfnicnoffmaaLc
import Derived.Test.YtjobfnicnoffmaaRc
namespace Go.Proofs.Ytjobfnicnoffmaa.Lr
open Go.RowKit Go.Proofs.Ytjobfnicnoffmaa.PPartTrees Go.Proofs.YtjobfnicnoffmaaW.PrintWords Go.Proofs.YtjobfnicnoffmaaW.PrintLast Go.Proofs.YtjobfnicnoffmaaW.PrintMore Go.Proofs.Ytjobfnicnoffmaa.Pt Go.Proofs.Ytjobfnicnoffmaa.Ph Go.Proofs.Ytjobfnicnoffmaa.Li Go.Proofs.Ytjobfnicnoffmaa.Pc Go.Proofs.Ytjobfnicnoffmaa.Tr Go.Proofs.Ytjobfnicnoffmaa.Bk Go.Proofs.Ytjobfnicnoffmaa.Wk Go.Proofs.Ytjobfnicnoffmaa.Lc Go.Proofs.Ytjobfnicnoffmaa.Gl

theorem eqi_round (k : Nat) (l : List Int) (i : Nat) (hi : i < l.length) (hl : l.length ≤ 17592186043904) : zoetroperef00_EqInts.l0 (k + 1) l l i = zoetroperef00_EqInts.l0 k l l (i + 1 : Nat) := by
  rw [zoetroperef00_EqInts.l0]
  have e1 := w64 (n := (i : Int) + 1) (by omega) (by omega)
  rw [if_pos (by omega), if_pos (by omega), if_pos (by omega), if_pos rfl, e1]
  rfl
theorem eqi_loop (l : List Int) (hl : l.length ≤ 17592186043904) (d : Nat) : ∀ i : Nat, i + d = l.length → zoetroperef00_EqInts.l0 (d + 1) l l i = some true := by
  induction d with
  | zero => intro i h; rw [zoetroperef00_EqInts.l0, if_neg (by omega)]
  | succ d ih => intro i h; rw [eqi_round (d + 1) l i (by omega) hl]; exact ih (i + 1) (by omega)
theorem eqi_self (l : List Int) (hl : l.length ≤ 17592186043904) : zoetroperef00_EqInts.f (l.length + 1) l l = some true := by
  unfold zoetroperef00_EqInts.f
  rw [if_pos rfl]
  exact eqi_loop l hl l.length 0 (by simp)
theorem eqi_any (A B : Option Addr) (c d : Nat) (l : List Int) (w : World) (h1 : Kd.C (Kd.int .i64) w A l.length l) (h2 : l.length ≤ c) (h3 : Kd.C (Kd.int .i64) w B l.length l) (h4 : l.length ≤ d) (hl : l.length ≤ 17592186043904) :
    Calls Try.prog 22 #[.slice A l.length c, .slice B l.length d] w fun e w' => e = .returned (.bool true) ∧ Drawn0 w w' := zoetroperef00_EqInts.calls (l.length + 1) A c l B d l true w h1 h2 h3 h4 (eqi_self l hl)
theorem copy_any (A : Option Addr) (c : Nat) (l : List Int) (w : World) (h1 : Kd.C (Kd.int .i64) w A l.length l) (h2 : l.length ≤ c) (hl : l.length ≤ 17592186043904) :
    Calls Try.prog 20 #[.slice A l.length c] w fun e w' => ∃ v, e = .returned v ∧ Kd.R (Kd.int .i64) 3 w' w.heap.size (fun _ => True) v l ∧ Below w.heap.size w w' :=
  zoetroperef00_CopyInts.calls A c l l w h1 h2 (by unfold zoetroperef00_CopyInts.f; rw [if_pos (by rw [List.length_nil]; omega)]; rfl)
theorem blkAns_len (r a : S23) (l : List Int) : (blkAns r a l).length ≤ 256 := by
  unfold blkAns
  split
  · exact treeF_len a 3 r l
  · simp

set_option maxRecDepth 100000 in
set_option maxHeartbeats 4000000 in
theorem trees_walk (A : Option Addr) (c : Nat) (l : List Int) (r a : S23) (w : World) (hC : Kd.C (Kd.int .i64) w A l.length l) (hc : l.length ≤ c) (hl : l.length ≤ 17592186043904) (hr : Fits r) (ha : Fits a) :
    Calls Try.prog 6 #[aggS r, aggS a, .slice A l.length c] w fun e w' => e = .returned (.bool true) ∧ Below w.heap.size w w' := by
  have HC := Aside0.mk hC
  have HLL := Aside0.mk hl
  have HBK := Aside0.mk (fun A c w h1 h2 => blocks_any r a A c l w hr ha h1 h2)
  have HRB := Aside0.mk (fun A c w h1 => rblocks_any r a A c l w h1)
  have hln := blkAns_len r a l
  obtain ⟨L, eL⟩ : ∃ L, blkAns r a l = L := ⟨_, rfl⟩
  obtain ⟨N, eN⟩ : ∃ N, blkUsed r a l = N := ⟨_, rfl⟩
  obtain ⟨E, eE⟩ : ∃ E, blkErr r a = E := ⟨_, rfl⟩
  rw [eL, eN, eE] at HBK HRB
  rw [eL] at hln
  clear hC hr ha eL eN eE
  obtain ⟨f0, f1, f2, f3⟩ := r
  obtain ⟨b0, b1, b2, b3⟩ := a
  dsimp only [aggS] at HBK HRB ⊢
  go_enter Try.func6, Try.ntmps6
  go_upto_region 1 with fail
  obtain ⟨w1, ew1⟩ : ∃ w1, (w.alloc (.cells #[.int .i64 f0, .int .i64 f1, .int .i64 f2, .int .i64 f3] 23)).alloc (.cells #[.int .i64 b0, .int .i64 b1, .int .i64 b2, .int .i64 b3] 23) = w1 := ⟨_, rfl⟩
  have hbr : w1.heap[w.heap.size]? = some (.cells #[.int .i64 f0, .int .i64 f1, .int .i64 f2, .int .i64 f3] 23 (0, 0)) := by rw [← ew1]; exact old (heap_alloc_new w _)
  have hba : w1.heap[w.heap.size + 1]? = some (.cells #[.int .i64 b0, .int .i64 b1, .int .i64 b2, .int .i64 b3] 23 (0, 0)) := by
    rw [← ew1]
    have := heap_alloc_new (w.alloc (.cells #[.int .i64 f0, .int .i64 f1, .int .i64 f2, .int .i64 f3] 23)) (.cells #[.int .i64 b0, .int .i64 b1, .int .i64 b2, .int .i64 b3] 23)
    rwa [show (w.alloc (.cells #[.int .i64 f0, .int .i64 f1, .int .i64 f2, .int .i64 f3] 23)).heap.size = w.heap.size + 1 by simp] at this
  have hb1 : Below w.heap.size w w1 := by rw [← ew1]; exact below_alloc (below_alloc (Below.refl _ _) _) _
  rw [ew1]
  have HBR := Aside0.mk hbr
  have HBA := Aside0.mk hba
  have HB1 := Aside0.mk hb1
  have HC1 := Aside0.mk (Kd.C_below HC.out hb1)
  clear hbr hba hb1 ew1
  go_wp2_with fail
  refine (copy_any A c l w1 HC1.out hc HLL.out).mono ?_
  rintro e w2 ⟨v2, rfl, hr2, hb2⟩
  have HLIT := Aside0.mk (lit_C3 [99, 98] (by decide) (heap_alloc_new w2 (.cells #[.int .i64 99, .int .i64 98] 3)))
  have HO2 := Aside0.mk (Kd.R_below hr2 (below_alloc (Below.refl w2.heap.size w2) (.cells #[.int .i64 99, .int .i64 98] 3)))
  have HB2 := Aside0.mk (below_step hb2 (below_alloc (Below.refl w2.heap.size w2) (.cells #[.int .i64 99, .int .i64 98] 3)))
  have HAP : Aside0 ((l.length + 2) * 8 ≤ 140737488355328) := ⟨by omega⟩
  clear hr2 hb2
  go_wp2_with ((with_reducible refine gate_builtin (b := .append) (xs := #[.tmp 16, .tmp 17]) rfl ?_); at_builtin; refine Kd.R_append_rows (Kd.int .i64) (w0 := w1) w1.heap.size rfl (.tmp 16) (.tmp 17) 24 3 (.int .i64 0) 8 rfl Try.underlying24 info3 rfl (by decide) (by omega) v2 l [99, 98] (some ⟨w2.heap.size, 0, none⟩) 2 2 (fun _ => True) (fun _ => False) rfl rfl HO2.out HLIT.out (fun _ _ h => h) (fun _ hk => hk.elim) (fun _ _ => trivial) HB2.out (below_size HB2.out) HAP.out ?_; intro v3 w3 ho hb3 hg hat; obtain ⟨gq, cp, rfl, gb, gl, cells, hgc⟩ := Kd.R_form ho (by simp); have hcp := (Kd.R_reads' ho).2.1; rw [List.length_append] at hcp; have hcp2 : l.length + 2 ≤ cp := hcp; have HO3 := Aside0.mk (Kd.R_take (m := l.length) ho (by simp)); rw [List.length_append]; obtain ⟨x0, x1, x2, x3⟩ := box_cells ((hb3.block _ (blk_lt HBR.out)).trans HBR.out); obtain ⟨y0, y1, y2, y3⟩ := box_cells ((hb3.block _ (blk_lt HBA.out)).trans HBA.out); clear gb gl hgc hcp ho hg hat)
  rw [List.take_left' rfl] at HO3
  have HB3 := Aside0.mk hb3
  clear hb3 cells HO2 HLIT HB2
  have hq := HBK.out (some ⟨gq, 0, none⟩) cp w3 (Kd.R_reads' HO3.out).2.2 (by omega)
  refine hq.mono ?_
  rintro e w4 ⟨v4, rfl, hr4, hb4⟩
  have HB4 := Aside0.mk (HB3.out.trans (hb4.mono HB3.out.size))
  have HB34 := Aside0.mk hb4
  have HO4 := Aside0.mk (Kd.R_below HO3.out hb4)
  have HR4 := Aside0.mk hr4
  clear hq hr4 hb4 x0 x1 x2 x3 y0 y1 y2 y3 HBK HO3
  obtain ⟨x0, x1, x2, x3⟩ := box_cells ((HB4.out.block _ (blk_lt HBR.out)).trans HBR.out)
  obtain ⟨y0, y1, y2, y3⟩ := box_cells ((HB4.out.block _ (blk_lt HBA.out)).trans HBA.out)
  go_wp2_with fail
  have hq := HRB.out A c w4 (Kd.C_below HC1.out HB4.out)
  refine hq.mono ?_
  rintro e w5 ⟨v5, rfl, hr5, hb5⟩
  have HB5 := Aside0.mk (HB4.out.trans (hb5.mono HB4.out.size))
  have HB35 := Aside0.mk (HB34.out.trans (hb5.mono HB34.out.size))
  have HO5 := Aside0.mk (Kd.R_below HO4.out hb5)
  have HR45 := Aside0.mk (Kd.R_below HR4.out hb5)
  have HR5 := Aside0.mk hr5
  clear hq hr5 hb5 x0 x1 x2 x3 y0 y1 y2 y3 HRB HO4 HR4 HB4 HB34
  obtain ⟨A4, c4, rfl, hl4, hC4⟩ := Kd.R_reads HR45.out
  obtain ⟨A5, c5, rfl, hl5, hC5⟩ := Kd.R_reads HR5.out
  have HC4 := Aside0.mk hC4
  have HC5 := Aside0.mk hC5
  clear hC4 hC5
  go_wp2_with fail
  refine (rsame_any A4 A5 c4 c5 L w5 HC4.out hl4 HC5.out hl5 (by omega)).mono ?_
  rintro e w6 ⟨rfl, ⟨nd, rfl⟩⟩
  go_wp2_with fail
  refine (eqi_any (some ⟨gq, 0, none⟩) A cp c l _ (Kd.C_drewN (Kd.R_reads' HO5.out).2.2 _) (by omega) (Kd.C_drewN (Kd.C_below HC1.out HB5.out) _) hc HLL.out).mono ?_
  rintro e w7 ⟨rfl, ⟨nd2, rfl⟩⟩
  have HO := Aside0.mk (Kd.R_drewN HR45.out (nd + nd2))
  have HBD := Aside0.mk (pw_below_drewN HB35.out (nd + nd2))
  have HB6 := Aside0.mk HB3.out
  clear HO5 HR45 HR5 HC4 HC5 HB5 HB35
  go_wp2_with fail
  go_loopw [14] (fun v14 w6 => ∃ (j : Nat) (ys : List S23), j ≤ L.length ∧ ys.length = L.length ∧ v14 = .int .i64 j ∧ Aside0 (Kd.R k23 23 w6 w3.heap.size (fun _ => True) (.slice A4 L.length c4) ys) ∧ Aside0 (Below w3.heap.size w3 w6)) (fun v14 _ => L.length - (intOf v14).toNat)
  case atStart => exact ⟨0, L, Nat.zero_le _, rfl, rfl, HO, HBD⟩
  case round =>
    clear HO HBD
    obtain ⟨j, ys, hj, hys, rfl, HO, HBD⟩ := hrel
    by_cases hlj : j < L.length
    · obtain ⟨g, cp', he, gb, gl, cells, hgc⟩ := Kd.R_form HO.out (by omega)
      injection he with ea en ec
      subst ea
      subst ec
      clear en gl hgc cells gb
      obtain ⟨c', hcl, hcc⟩ := old_cells HO.out j hlj
      have HCC := Aside0.mk hcc
      clear hcc
      go_wp2_with (refine Kd.R_store k23 (w0 := w3) w3.heap.size rfl rfl 23 (.tmp 67) (.tmp 66) rfl 23 (j : Int) 0 ys z23 (.agg #[.int .i64 0, .int .i64 0, .int .i64 0, .int .i64 0]) zeroV c' (fun _ => True) (fun _ => False) rfl rfl rfl rfl size23 (by unfold zeroV; decide) HO.out (by omega) (by omega) hcl HCC.out (by decide) (zero_M _ _ c' hcl) (fun _ hk => hk.elim) HBD.out ?_; intro w7 ho hb hg)
      exact ⟨⟨j + 1, ys.set (j : Int).toNat z23, by omega, by rw [List.length_set]; exact hys, rfl, ⟨ho⟩, ⟨hb⟩⟩, by simp [intOf]; omega⟩
    · obtain rfl : j = L.length := by omega
      go_wp2_with fail
      refine (works_any _).mono ?_
      rintro e w8 ⟨rfl, hb8⟩
      go_wp2_with fail
      go_ret
      exact ⟨rfl, below_step HB1.out (below_step HB3.out (HBD.out.trans (hb8.mono HBD.out.size)))⟩

theorem law_trees (n0 n1 n2 n3 m0 m1 m2 m3 : Int) (a : Option Addr) (len cap : Nat) (zs : List Int) (W : World) (w0 : (Lit.int .i64 n0).wf = true) (w1 : (Lit.int .i64 n1).wf = true) (w2 : (Lit.int .i64 n2).wf = true) (w3 : (Lit.int .i64 n3).wf = true) (u0 : (Lit.int .i64 m0).wf = true) (u1 : (Lit.int .i64 m1).wf = true) (u2 : (Lit.int .i64 m2).wf = true) (u3 : (Lit.int .i64 m3).wf = true) (hr : Open.IsRow .i64 W a len cap zs) (hcap : cap * 8 ≤ 140737488351232) :
    Calls Try.prog 6 #[.agg #[.int .i64 n0, .int .i64 n1, .int .i64 n2, .int .i64 n3], .agg #[.int .i64 m0, .int .i64 m1, .int .i64 m2, .int .i64 m3], .slice a len cap] W fun e w' => e = .returned (.bool true) ∧ Below W.heap.size W w' := by
  obtain ⟨hl, hlc, hC, -⟩ := Rc.row_C hr
  have h := trees_walk a cap (zs.take len) ⟨n0, n1, n2, n3⟩ ⟨m0, m1, m2, m3⟩ W hC (by omega) (by omega)
    ⟨(Rc.wf_i64 w0).2, (Rc.wf_i64 w1).2, (Rc.wf_i64 w2).2, (Rc.wf_i64 w3).2⟩ ⟨(Rc.wf_i64 u0).2, (Rc.wf_i64 u1).2, (Rc.wf_i64 u2).2, (Rc.wf_i64 u3).2⟩
  rw [hl] at h
  exact h
end Go.Proofs.Ytjobfnicnoffmaa.Lr
