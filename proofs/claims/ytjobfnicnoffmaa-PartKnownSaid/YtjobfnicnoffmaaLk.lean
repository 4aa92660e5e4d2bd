/- The walk of the law PartKnown. -/
import Derived.Test.YtjobfnicnoffmaaWk
import Derived.Deep.DeepCutAuto
namespace Go.Proofs.Ytjobfnicnoffmaa.Lk
open Go.RowKit Go.Proofs.Ytjobfnicnoffmaa.PPartTrees Go.Proofs.YtjobfnicnoffmaaW.PrintWords Go.Proofs.YtjobfnicnoffmaaW.PrintLast Go.Proofs.YtjobfnicnoffmaaW.PrintMore Go.Proofs.Ytjobfnicnoffmaa.Pt Go.Proofs.Ytjobfnicnoffmaa.Ph Go.Proofs.Ytjobfnicnoffmaa.Li Go.Proofs.Ytjobfnicnoffmaa.Pc Go.Proofs.Ytjobfnicnoffmaa.Tr Go.Proofs.Ytjobfnicnoffmaa.Bk Go.Proofs.Ytjobfnicnoffmaa.Wk

def strips : List S23 := [⟨8, 0, 8, 32⟩, ⟨16, 0, 8, 32⟩, ⟨24, 0, 8, 32⟩, ⟨32, 0, 8, 32⟩]
theorem cut0 : cutAns ⟨8, 0, 32, 32⟩ 9 = strips ∧ cutErr ⟨8, 0, 32, 32⟩ 9 = 0 := ⟨by kernel_rfl, by kernel_rfl⟩
theorem blk5 : blkAns ⟨64, 0, 64, 64⟩ ⟨0, 0, 64, 64⟩ [5] = [] ∧ blkErr ⟨64, 0, 64, 64⟩ ⟨0, 0, 64, 64⟩ = 0 ∧ blkUsed ⟨64, 0, 64, 64⟩ ⟨0, 0, 64, 64⟩ [5] = 0 := ⟨by kernel_rfl, by kernel_rfl, by kernel_rfl⟩
def L7 : List S23 := [⟨1024, 1024, 16, 64⟩, ⟨1040, 1024, 16, 64⟩, ⟨1056, 1024, 16, 64⟩, ⟨1072, 1024, 16, 64⟩]
theorem len7 : (blkAns ⟨1024, 1024, 64, 64⟩ ⟨1024, 1024, 1024, 1024⟩ [-7]).length = 4 := by kernel_rfl
theorem blk7 : blkAns ⟨1024, 1024, 64, 64⟩ ⟨1024, 1024, 1024, 1024⟩ [-7] = blkAns ⟨1024, 1024, 64, 64⟩ ⟨1024, 1024, 1024, 1024⟩ [-7] ∧ blkErr ⟨1024, 1024, 64, 64⟩ ⟨1024, 1024, 1024, 1024⟩ = 0 ∧ blkUsed ⟨1024, 1024, 64, 64⟩ ⟨1024, 1024, 1024, 1024⟩ [-7] = 1 := ⟨rfl, by kernel_rfl, by kernel_rfl⟩
theorem blkF : (blkAns ⟨0, 0, 64, 64⟩ ⟨0, 0, 64, 64⟩ (List.replicate 30 3)).length = 64 ∧ blkErr ⟨0, 0, 64, 64⟩ ⟨0, 0, 64, 64⟩ = 0 ∧ blkUsed ⟨0, 0, 64, 64⟩ ⟨0, 0, 64, 64⟩ (List.replicate 30 3) = 21 := ⟨by kernel_rfl, by kernel_rfl, by kernel_rfl⟩
theorem fill_set : ∀ K : Fin 30, (List.replicate K.1 (3 : Int) ++ List.replicate (30 - K.1) 0).set K.1 3 = List.replicate (K.1 + 1) 3 ++ List.replicate (30 - (K.1 + 1)) 0 := by decide
def bads : List S23 := [⟨4, 0, 8, 8⟩, ⟨0, 0, 16, 8⟩, ⟨0, 0, 8, 16⟩, ⟨(-8), 0, 8, 8⟩, ⟨0, 2056, 8, 8⟩, ⟨0, 0, 128, 128⟩, ⟨0, 0, 0, 0⟩]
theorem bads_all (K : Nat) (h : K < 7) : cutErr (bads.getD K z23) 0 = 2 ∧ blkErr (bads.getD K z23) ⟨0, 0, 64, 64⟩ = 2 ∧ blkUsed (bads.getD K z23) ⟨0, 0, 64, 64⟩ [] = 0 ∧ Fits (bads.getD K z23) := by
  rcases (show K = 0 ∨ K = 1 ∨ K = 2 ∨ K = 3 ∨ K = 4 ∨ K = 5 ∨ K = 6 by omega) with rfl | rfl | rfl | rfl | rfl | rfl | rfl
  · exact ⟨by kernel_rfl, by kernel_rfl, by kernel_rfl, by decide, by decide, by decide, by decide⟩
  · exact ⟨by kernel_rfl, by kernel_rfl, by kernel_rfl, by decide, by decide, by decide, by decide⟩
  · exact ⟨by kernel_rfl, by kernel_rfl, by kernel_rfl, by decide, by decide, by decide, by decide⟩
  · exact ⟨by kernel_rfl, by kernel_rfl, by kernel_rfl, by decide, by decide, by decide, by decide⟩
  · exact ⟨by kernel_rfl, by kernel_rfl, by kernel_rfl, by decide, by decide, by decide, by decide⟩
  · exact ⟨by kernel_rfl, by kernel_rfl, by kernel_rfl, by decide, by decide, by decide, by decide⟩
  · exact ⟨by kernel_rfl, by kernel_rfl, by kernel_rfl, by decide, by decide, by decide, by decide⟩
def areas : List S23 := [⟨0, 0, 0, 8⟩, ⟨0, 0, 8, 4⟩, ⟨0, 0, 8, 1032⟩, ⟨(-8), 0, 8, 8⟩, ⟨1, 0, 8, 8⟩, ⟨0, 1032, 8, 8⟩]
theorem areas_all (K : Nat) (h : K < 6) : blkErr ⟨0, 0, 64, 64⟩ (areas.getD K z23) = 2 ∧ Fits (areas.getD K z23) := by
  rcases (show K = 0 ∨ K = 1 ∨ K = 2 ∨ K = 3 ∨ K = 4 ∨ K = 5 by omega) with rfl | rfl | rfl | rfl | rfl | rfl
  · exact ⟨by kernel_rfl, by decide, by decide, by decide, by decide⟩
  · exact ⟨by kernel_rfl, by decide, by decide, by decide, by decide⟩
  · exact ⟨by kernel_rfl, by decide, by decide, by decide, by decide⟩
  · exact ⟨by kernel_rfl, by decide, by decide, by decide, by decide⟩
  · exact ⟨by kernel_rfl, by decide, by decide, by decide, by decide⟩
  · exact ⟨by kernel_rfl, by decide, by decide, by decide, by decide⟩

set_option maxRecDepth 100000 in
set_option maxHeartbeats 8000000 in
theorem known_walk (w : World) : Calls Try.prog 4 #[] w fun e w' => e = .returned (.bool true) ∧ Below w.heap.size w w' := by
  have HB0 := Aside0.mk (Below.refl w.heap.size w)
  go_enter Try.func4, Try.ntmps4
  go_wp2_with fail
  have HS := Aside0.mk (And.intro (heap_alloc_new w (.cells #[.int .i64 64, .int .i64 10, .int .i64 32, .int .i64 10, .int .i64 16, .int .i64 8, .int .i64 8, .int .i64 1, .int .i64 4, .int .i64 0, .int .i64 0, .int .i64 0, .int .i64 128, .int .i64 0, .int .i64 (-8), .int .i64 0] 35)) (below_alloc HB0.out (.cells #[.int .i64 64, .int .i64 10, .int .i64 32, .int .i64 10, .int .i64 16, .int .i64 8, .int .i64 8, .int .i64 1, .int .i64 4, .int .i64 0, .int .i64 0, .int .i64 0, .int .i64 128, .int .i64 0, .int .i64 (-8), .int .i64 0] 35)))
  generalize hw1 : w.alloc (.cells #[.int .i64 64, .int .i64 10, .int .i64 32, .int .i64 10, .int .i64 16, .int .i64 8, .int .i64 8, .int .i64 1, .int .i64 4, .int .i64 0, .int .i64 0, .int .i64 0, .int .i64 128, .int .i64 0, .int .i64 (-8), .int .i64 0] 35) = w1 at HS ⊢
  clear hw1 HB0
  go_loopw [53] (fun v53 wr => ∃ K : Nat, K ≤ 8 ∧ v53 = .int .i64 K ∧ Aside0 (wr.heap[w.heap.size]? = some (.cells #[.int .i64 64, .int .i64 10, .int .i64 32, .int .i64 10, .int .i64 16, .int .i64 8, .int .i64 8, .int .i64 1, .int .i64 4, .int .i64 0, .int .i64 0, .int .i64 0, .int .i64 128, .int .i64 0, .int .i64 (-8), .int .i64 0] 35 (0, 0)) ∧ Below w.heap.size w wr)) (fun v53 _ => 8 - (intOf v53).toNat)
  case atStart => exact ⟨0, Nat.zero_le _, rfl, HS⟩
  case round =>
    clear HS
    obtain ⟨K, hK, rfl, HS⟩ := hrel
    rcases (show K = 0 ∨ K = 1 ∨ K = 2 ∨ K = 3 ∨ K = 4 ∨ K = 5 ∨ K = 6 ∨ K = 7 ∨ K = 8 by omega) with rfl | rfl | rfl | rfl | rfl | rfl | rfl | rfl | rfl
    · have c0 : wr.cell? ⟨w.heap.size, 0, none⟩ = some (.int .i64 64) := blk_cell HS.out.1 0
      have c1 : wr.cell? ⟨w.heap.size, 1, none⟩ = some (.int .i64 10) := blk_cell HS.out.1 1
      go_wp2_with fail
      have hq := fun w => types_any 64 w
      rw [show typesN 64 = 10 from by decide, show typesE 64 = 0 from by decide] at hq
      refine (hq _).mono ?_
      rintro e w2 ⟨rfl, ⟨nd, rfl⟩⟩
      clear hq
      go_wp2_with fail
      exact ⟨⟨1, by omega, rfl, ⟨old HS.out.1, pw_below_drewN (below_alloc HS.out.2 _) nd⟩⟩, by simp [intOf]⟩
    · have c0 : wr.cell? ⟨w.heap.size, 2, none⟩ = some (.int .i64 32) := blk_cell HS.out.1 2
      have c1 : wr.cell? ⟨w.heap.size, 3, none⟩ = some (.int .i64 10) := blk_cell HS.out.1 3
      go_wp2_with fail
      have hq := fun w => types_any 32 w
      rw [show typesN 32 = 10 from by decide, show typesE 32 = 0 from by decide] at hq
      refine (hq _).mono ?_
      rintro e w2 ⟨rfl, ⟨nd, rfl⟩⟩
      clear hq
      go_wp2_with fail
      exact ⟨⟨2, by omega, rfl, ⟨old HS.out.1, pw_below_drewN (below_alloc HS.out.2 _) nd⟩⟩, by simp [intOf]⟩
    · have c0 : wr.cell? ⟨w.heap.size, 4, none⟩ = some (.int .i64 16) := blk_cell HS.out.1 4
      have c1 : wr.cell? ⟨w.heap.size, 5, none⟩ = some (.int .i64 8) := blk_cell HS.out.1 5
      go_wp2_with fail
      have hq := fun w => types_any 16 w
      rw [show typesN 16 = 8 from by decide, show typesE 16 = 0 from by decide] at hq
      refine (hq _).mono ?_
      rintro e w2 ⟨rfl, ⟨nd, rfl⟩⟩
      clear hq
      go_wp2_with fail
      exact ⟨⟨3, by omega, rfl, ⟨old HS.out.1, pw_below_drewN (below_alloc HS.out.2 _) nd⟩⟩, by simp [intOf]⟩
    · have c0 : wr.cell? ⟨w.heap.size, 6, none⟩ = some (.int .i64 8) := blk_cell HS.out.1 6
      have c1 : wr.cell? ⟨w.heap.size, 7, none⟩ = some (.int .i64 1) := blk_cell HS.out.1 7
      go_wp2_with fail
      have hq := fun w => types_any 8 w
      rw [show typesN 8 = 1 from by decide, show typesE 8 = 0 from by decide] at hq
      refine (hq _).mono ?_
      rintro e w2 ⟨rfl, ⟨nd, rfl⟩⟩
      clear hq
      go_wp2_with fail
      exact ⟨⟨4, by omega, rfl, ⟨old HS.out.1, pw_below_drewN (below_alloc HS.out.2 _) nd⟩⟩, by simp [intOf]⟩
    · have c0 : wr.cell? ⟨w.heap.size, 8, none⟩ = some (.int .i64 4) := blk_cell HS.out.1 8
      have c1 : wr.cell? ⟨w.heap.size, 9, none⟩ = some (.int .i64 0) := blk_cell HS.out.1 9
      go_wp2_with fail
      have hq := fun w => types_any 4 w
      rw [show typesN 4 = 0 from by decide, show typesE 4 = 2 from by decide] at hq
      refine (hq _).mono ?_
      rintro e w2 ⟨rfl, ⟨nd, rfl⟩⟩
      clear hq
      go_wp2_with fail
      exact ⟨⟨5, by omega, rfl, ⟨old HS.out.1, pw_below_drewN (below_alloc HS.out.2 _) nd⟩⟩, by simp [intOf]⟩
    · have c0 : wr.cell? ⟨w.heap.size, 10, none⟩ = some (.int .i64 0) := blk_cell HS.out.1 10
      have c1 : wr.cell? ⟨w.heap.size, 11, none⟩ = some (.int .i64 0) := blk_cell HS.out.1 11
      go_wp2_with fail
      have hq := fun w => types_any 0 w
      rw [show typesN 0 = 0 from by decide, show typesE 0 = 2 from by decide] at hq
      refine (hq _).mono ?_
      rintro e w2 ⟨rfl, ⟨nd, rfl⟩⟩
      clear hq
      go_wp2_with fail
      exact ⟨⟨6, by omega, rfl, ⟨old HS.out.1, pw_below_drewN (below_alloc HS.out.2 _) nd⟩⟩, by simp [intOf]⟩
    · have c0 : wr.cell? ⟨w.heap.size, 12, none⟩ = some (.int .i64 128) := blk_cell HS.out.1 12
      have c1 : wr.cell? ⟨w.heap.size, 13, none⟩ = some (.int .i64 0) := blk_cell HS.out.1 13
      go_wp2_with fail
      have hq := fun w => types_any 128 w
      rw [show typesN 128 = 0 from by decide, show typesE 128 = 2 from by decide] at hq
      refine (hq _).mono ?_
      rintro e w2 ⟨rfl, ⟨nd, rfl⟩⟩
      clear hq
      go_wp2_with fail
      exact ⟨⟨7, by omega, rfl, ⟨old HS.out.1, pw_below_drewN (below_alloc HS.out.2 _) nd⟩⟩, by simp [intOf]⟩
    · have c0 : wr.cell? ⟨w.heap.size, 14, none⟩ = some (.int .i64 (-8)) := blk_cell HS.out.1 14
      have c1 : wr.cell? ⟨w.heap.size, 15, none⟩ = some (.int .i64 0) := blk_cell HS.out.1 15
      go_wp2_with fail
      have hq := fun w => types_any (-8) w
      rw [show typesN (-8) = 0 from by decide, show typesE (-8) = 2 from by decide] at hq
      refine (hq _).mono ?_
      rintro e w2 ⟨rfl, ⟨nd, rfl⟩⟩
      clear hq
      go_wp2_with fail
      exact ⟨⟨8, by omega, rfl, ⟨old HS.out.1, pw_below_drewN (below_alloc HS.out.2 _) nd⟩⟩, by simp [intOf]⟩
    · have HB0 := Aside0.mk HS.out.2
      clear HS
      go_wp2_with fail
      go_wp2_with fail
      refine (rect_any 8 0 32 32 _).mono ?_
      rintro e w1 ⟨rfl, hb⟩
      have HB2 := Aside0.mk (below_step HB0.out hb)
      clear HB0 hb
      have hq := cuts_any ⟨8, 0, 32, 32⟩ 9 w1 (by decide) (by decide)
      rw [cut0.1, cut0.2] at hq
      go_wp2_with fail
      refine hq.mono ?_
      rintro e w3 ⟨v3, rfl, hr, hb⟩
      have HSR0 := Aside0.mk hr
      clear hr hq
      have HB4 := Aside0.mk (below_step HB2.out hb)
      clear HB2 hb
      go_wp2_with fail
      refine (rect_any 4 0 8 8 _).mono ?_
      rintro e w5 ⟨rfl, hb⟩
      have HB6 := Aside0.mk (below_step HB4.out hb)
      have HSR6 := Aside0.mk (Kd.R_below HSR0.out hb)
      clear HB4 HSR0 hb
      go_wp2_with fail
      refine (rect_any 0 0 16 8 _).mono ?_
      rintro e w7 ⟨rfl, hb⟩
      have HB8 := Aside0.mk (below_step HB6.out hb)
      have HSR8 := Aside0.mk (Kd.R_below HSR6.out hb)
      clear HB6 HSR6 hb
      go_wp2_with fail
      refine (rect_any 0 0 8 16 _).mono ?_
      rintro e w9 ⟨rfl, hb⟩
      have HB10 := Aside0.mk (below_step HB8.out hb)
      have HSR10 := Aside0.mk (Kd.R_below HSR8.out hb)
      clear HB8 HSR8 hb
      go_wp2_with fail
      refine (rect_any (-8) 0 8 8 _).mono ?_
      rintro e w11 ⟨rfl, hb⟩
      have HB12 := Aside0.mk (below_step HB10.out hb)
      have HSR12 := Aside0.mk (Kd.R_below HSR10.out hb)
      clear HB10 HSR10 hb
      go_wp2_with fail
      refine (rect_any 0 2056 8 8 _).mono ?_
      rintro e w13 ⟨rfl, hb⟩
      have HB14 := Aside0.mk (below_step HB12.out hb)
      have HSR14 := Aside0.mk (Kd.R_below HSR12.out hb)
      clear HB12 HSR12 hb
      go_wp2_with fail
      refine (rect_any 0 0 128 128 _).mono ?_
      rintro e w15 ⟨rfl, hb⟩
      have HB16 := Aside0.mk (below_step HB14.out hb)
      have HSR16 := Aside0.mk (Kd.R_below HSR14.out hb)
      clear HB14 HSR14 hb
      have hL := lit_C23 bads (by decide) (show (w15.alloc (.cells #[.int .i64 4, .int .i64 0, .int .i64 8, .int .i64 8, .int .i64 0, .int .i64 0, .int .i64 16, .int .i64 8, .int .i64 0, .int .i64 0, .int .i64 8, .int .i64 16, .int .i64 (-8), .int .i64 0, .int .i64 8, .int .i64 8, .int .i64 0, .int .i64 2056, .int .i64 8, .int .i64 8, .int .i64 0, .int .i64 0, .int .i64 128, .int .i64 128, .int .i64 0, .int .i64 0, .int .i64 0, .int .i64 0] 23)).heap[w15.heap.size]? = some (.cells (bads.flatMap cS).toArray 23 (0, 0)) from heap_alloc_new _ _)
      have hb := below_alloc (Below.refl w15.heap.size w15) (.cells #[.int .i64 4, .int .i64 0, .int .i64 8, .int .i64 8, .int .i64 0, .int .i64 0, .int .i64 16, .int .i64 8, .int .i64 0, .int .i64 0, .int .i64 8, .int .i64 16, .int .i64 (-8), .int .i64 0, .int .i64 8, .int .i64 8, .int .i64 0, .int .i64 2056, .int .i64 8, .int .i64 8, .int .i64 0, .int .i64 0, .int .i64 128, .int .i64 128, .int .i64 0, .int .i64 0, .int .i64 0, .int .i64 0] 23)
      obtain ⟨wS17, eS⟩ : ∃ wS, w15.alloc (.cells #[.int .i64 4, .int .i64 0, .int .i64 8, .int .i64 8, .int .i64 0, .int .i64 0, .int .i64 16, .int .i64 8, .int .i64 0, .int .i64 0, .int .i64 8, .int .i64 16, .int .i64 (-8), .int .i64 0, .int .i64 8, .int .i64 8, .int .i64 0, .int .i64 2056, .int .i64 8, .int .i64 8, .int .i64 0, .int .i64 0, .int .i64 128, .int .i64 128, .int .i64 0, .int .i64 0, .int .i64 0, .int .i64 0] 23) = wS := ⟨_, rfl⟩
      rw [eS] at hL hb
      have HL17 := Aside0.mk hL
      go_wp2_with fail
      try rw [eS]
      clear eS hL
      obtain ⟨A17, eA⟩ : ∃ A : Option Addr, (some ⟨w15.heap.size, 0, none⟩ : Option Addr) = A := ⟨_, rfl⟩
      rw [eA] at HL17 ⊢
      clear eA
      have HB18 := Aside0.mk (below_step HB16.out hb)
      have HSR18 := Aside0.mk (Kd.R_below HSR16.out hb)
      clear HB16 HSR16 hb
      have HBS := Aside0.mk (Below.refl wS17.heap.size wS17)
      go_loopw [8] (fun v wr2 => ∃ K : Nat, K ≤ 7 ∧ v = .int .i64 K ∧ Aside0 (Below wS17.heap.size wS17 wr2)) (fun v _ => 7 - (intOf v).toNat)
      case atStart => exact ⟨0, Nat.zero_le _, rfl, HBS⟩
      case round =>
        clear HBS
        obtain ⟨K, hK, rfl, HS⟩ := hrel
        by_cases hlt : K < 7
        · obtain ⟨ad, hA⟩ : ∃ ad, A17 = some ad := by obtain ⟨ad, e, -⟩ := at_T23 HL17.out (K : Int) (by omega) (by have : bads.length = 7 := rfl; omega); exact ⟨ad, e⟩
          subst hA
          have hfact := bads_all K hlt
          have er : rd_T23 bads (K : Int) = bads.getD K z23 := by unfold rd_T23; rw [Int.toNat_natCast]
          obtain ⟨⟨f0, f1, f2, f3⟩, ex⟩ : ∃ x, bads.getD K z23 = x := ⟨_, rfl⟩
          have hat : ∀ w', Below wS17.heap.size wS17 w' → w'.cell? (ad.add (K * 4)) = some (.int .i64 f0) ∧ w'.cell? ⟨(ad.add (K * 4)).block, (ad.add (K * 4)).off + 1, none⟩ = some (.int .i64 f1) ∧ w'.cell? ⟨(ad.add (K * 4)).block, (ad.add (K * 4)).off + 2, none⟩ = some (.int .i64 f2) ∧ w'.cell? ⟨(ad.add (K * 4)).block, (ad.add (K * 4)).off + 3, none⟩ = some (.int .i64 f3) := fun w' hb => by
            obtain ⟨ad', e, c0, c1, c2, c3⟩ := at_T23 (Kd.C_below HL17.out hb) (K : Int) (by omega) (by have : bads.length = 7 := rfl; omega)
            cases e
            rw [er, ex, Int.toNat_natCast] at c0 c1 c2 c3
            exact ⟨c0, c1, c2, c3⟩
          rw [ex] at hfact
          have HAT := Aside0.mk hat
          clear hat er ex
          obtain ⟨c0, c1, c2, c3⟩ := HAT.out _ HS.out
          obtain ⟨h1, h2, h3, h4⟩ := hfact
          have hcx : ∀ w, Calls Try.prog 15 #[.agg #[.int .i64 f0, .int .i64 f1, .int .i64 f2, .int .i64 f3], .int .i64 0] w fun e w' => ∃ v, e = .returned (.tuple #[v, .int .i64 2]) ∧ Below w.heap.size w w' := fun w => (cuts_any ⟨f0, f1, f2, f3⟩ 0 w h4.1 h4.2.1).mono fun e w' ⟨v, e1, _, hb⟩ => ⟨v, by rw [e1, h1], hb⟩
          have hbx : ∀ w, Calls Try.prog 11 #[.agg #[.int .i64 f0, .int .i64 f1, .int .i64 f2, .int .i64 f3], .agg #[.int .i64 0, .int .i64 0, .int .i64 64, .int .i64 64], .slice none 0 0] w fun e w' => ∃ v, e = .returned (.tuple #[v, .int .i64 0, .int .i64 2]) ∧ Below w.heap.size w w' := fun w => (blocks_any ⟨f0, f1, f2, f3⟩ ⟨0, 0, 64, 64⟩ none 0 [] w h4 ⟨by decide, by decide, by decide, by decide⟩ (Kd.C_nil _ _) (Nat.le_refl _)).mono fun e w' ⟨v, e1, _, hb⟩ => ⟨v, by rw [e1, h2, h3], hb⟩
          have HCX := Aside0.mk hcx
          have HBX := Aside0.mk hbx
          clear hcx hbx h1 h2 h3 h4
          have i1 : (0 : Int) ≤ (K : Int) := by omega
          have i2 : (K : Int) < 7 := by omega
          go_wp2_with fail
          refine (HCX.out _).mono ?_
          rintro e w3 ⟨vx, rfl, hb3⟩
          have HB3 : Aside0 (Below wS17.heap.size wS17 w3) := ⟨below_step HS.out hb3⟩
          clear hb3 c0 c1 c2 c3
          obtain ⟨c0, c1, c2, c3⟩ := HAT.out _ HB3.out
          go_upto_region 14 with fail
          go_cut [11, 12, 13] (fun s11 s12 s13 wx => (∃ v, s11 = v) ∧ s12 = .int .i64 0 ∧ s13 = .int .i64 2 ∧ Aside0 (Below wS17.heap.size wS17 wx))
          case first =>
            go_region_held3 (fun w' => w'.cell? (ad.add (K * 4)) = some (.int .i64 f0) ∧ w'.cell? ⟨(ad.add (K * 4)).block, (ad.add (K * 4)).off + 1, none⟩ = some (.int .i64 f1) ∧ w'.cell? ⟨(ad.add (K * 4)).block, (ad.add (K * 4)).off + 2, none⟩ = some (.int .i64 f2) ∧ w'.cell? ⟨(ad.add (K * 4)).block, (ad.add (K * 4)).off + 3, none⟩ = some (.int .i64 f3)) (first | exact ⟨c0, c1, c2, c3⟩ | exact ⟨k0, k1, k2, k3⟩ | exact ⟨j0, j1, j2, j3⟩) ((first | (go_at_call 16; refine (rect_any _ _ _ _ _).mono ?_; rintro e w5 ⟨rfl, hb5⟩; have HB5 : Aside0 (Below wS17.heap.size wS17 w5) := ⟨below_step (by repeat (first | exact HB3.out | apply below_drew1 | apply pw_below_drewN)) hb5⟩; obtain ⟨k0, k1, k2, k3⟩ := HAT.out _ HB5.out) | (go_at_call 11; refine (HBX.out _).mono ?_; rintro e w6 ⟨vy, rfl, hb6⟩; have HB6 : Aside0 (Below wS17.heap.size wS17 w6) := ⟨below_step (by repeat (first | exact HB5.out | exact HB3.out | apply below_drew1 | apply pw_below_drewN)) hb6⟩; obtain ⟨j0, j1, j2, j3⟩ := HAT.out _ HB6.out)))
            go_wp2_with fail
            go_meet
            exact ⟨⟨_, rfl⟩, rfl, rfl, HB6⟩
          case rest =>
            obtain ⟨⟨vy, rfl⟩, rfl, rfl, HB⟩ := hcut
            clear c0 c1 c2 c3
            go_wp2_with fail
            exact ⟨⟨K + 1, by omega, rfl, HB⟩, by simp [intOf]; omega⟩
        · obtain rfl : K = 7 := by omega
          have hb := HS.out
          clear HS
          have HB19 := Aside0.mk (below_step HB18.out hb)
          have HSR19 := Aside0.mk (Kd.R_below HSR18.out hb)
          clear HB18 HSR18 hb
          go_wp2_with fail
          refine (rect_any 0 0 0 8 _).mono ?_
          rintro e w20 ⟨rfl, hb⟩
          have HB21 := Aside0.mk (below_step HB19.out hb)
          have HSR21 := Aside0.mk (Kd.R_below HSR19.out hb)
          clear HB19 HSR19 hb
          go_wp2_with fail
          refine (rect_any 0 0 8 4 _).mono ?_
          rintro e w22 ⟨rfl, hb⟩
          have HB23 := Aside0.mk (below_step HB21.out hb)
          have HSR23 := Aside0.mk (Kd.R_below HSR21.out hb)
          clear HB21 HSR21 hb
          go_wp2_with fail
          refine (rect_any 0 0 8 1032 _).mono ?_
          rintro e w24 ⟨rfl, hb⟩
          have HB25 := Aside0.mk (below_step HB23.out hb)
          have HSR25 := Aside0.mk (Kd.R_below HSR23.out hb)
          clear HB23 HSR23 hb
          go_wp2_with fail
          refine (rect_any (-8) 0 8 8 _).mono ?_
          rintro e w26 ⟨rfl, hb⟩
          have HB27 := Aside0.mk (below_step HB25.out hb)
          have HSR27 := Aside0.mk (Kd.R_below HSR25.out hb)
          clear HB25 HSR25 hb
          go_wp2_with fail
          refine (rect_any 1 0 8 8 _).mono ?_
          rintro e w28 ⟨rfl, hb⟩
          have HB29 := Aside0.mk (below_step HB27.out hb)
          have HSR29 := Aside0.mk (Kd.R_below HSR27.out hb)
          clear HB27 HSR27 hb
          go_wp2_with fail
          refine (rect_any 0 1032 8 8 _).mono ?_
          rintro e w30 ⟨rfl, hb⟩
          have HB31 := Aside0.mk (below_step HB29.out hb)
          have HSR31 := Aside0.mk (Kd.R_below HSR29.out hb)
          clear HB29 HSR29 hb
          have hL := lit_C23 areas (by decide) (show (w30.alloc (.cells #[.int .i64 0, .int .i64 0, .int .i64 0, .int .i64 8, .int .i64 0, .int .i64 0, .int .i64 8, .int .i64 4, .int .i64 0, .int .i64 0, .int .i64 8, .int .i64 1032, .int .i64 (-8), .int .i64 0, .int .i64 8, .int .i64 8, .int .i64 1, .int .i64 0, .int .i64 8, .int .i64 8, .int .i64 0, .int .i64 1032, .int .i64 8, .int .i64 8] 23)).heap[w30.heap.size]? = some (.cells (areas.flatMap cS).toArray 23 (0, 0)) from heap_alloc_new _ _)
          have hb := below_alloc (Below.refl w30.heap.size w30) (.cells #[.int .i64 0, .int .i64 0, .int .i64 0, .int .i64 8, .int .i64 0, .int .i64 0, .int .i64 8, .int .i64 4, .int .i64 0, .int .i64 0, .int .i64 8, .int .i64 1032, .int .i64 (-8), .int .i64 0, .int .i64 8, .int .i64 8, .int .i64 1, .int .i64 0, .int .i64 8, .int .i64 8, .int .i64 0, .int .i64 1032, .int .i64 8, .int .i64 8] 23)
          obtain ⟨wS32, eS⟩ : ∃ wS, w30.alloc (.cells #[.int .i64 0, .int .i64 0, .int .i64 0, .int .i64 8, .int .i64 0, .int .i64 0, .int .i64 8, .int .i64 4, .int .i64 0, .int .i64 0, .int .i64 8, .int .i64 1032, .int .i64 (-8), .int .i64 0, .int .i64 8, .int .i64 8, .int .i64 1, .int .i64 0, .int .i64 8, .int .i64 8, .int .i64 0, .int .i64 1032, .int .i64 8, .int .i64 8] 23) = wS := ⟨_, rfl⟩
          rw [eS] at hL hb
          have HL32 := Aside0.mk hL
          go_wp2_with fail
          try rw [eS]
          clear eS hL
          obtain ⟨A32, eA⟩ : ∃ A : Option Addr, (some ⟨w30.heap.size, 0, none⟩ : Option Addr) = A := ⟨_, rfl⟩
          rw [eA] at HL32 ⊢
          clear eA
          have HB33 := Aside0.mk (below_step HB31.out hb)
          have HSR33 := Aside0.mk (Kd.R_below HSR31.out hb)
          clear HB31 HSR31 hb
          have HBS := Aside0.mk (Below.refl wS32.heap.size wS32)
          go_loopw [15] (fun v wr3 => ∃ K : Nat, K ≤ 6 ∧ v = .int .i64 K ∧ Aside0 (Below wS32.heap.size wS32 wr3)) (fun v _ => 6 - (intOf v).toNat)
          case atStart => exact ⟨0, Nat.zero_le _, rfl, HBS⟩
          case round =>
            clear HBS
            obtain ⟨K, hK, rfl, HS⟩ := hrel
            by_cases hlt : K < 6
            · obtain ⟨ad, hA⟩ : ∃ ad, A32 = some ad := by obtain ⟨ad, e, -⟩ := at_T23 HL32.out (K : Int) (by omega) (by have : areas.length = 6 := rfl; omega); exact ⟨ad, e⟩
              subst hA
              have hfact := areas_all K hlt
              have er : rd_T23 areas (K : Int) = areas.getD K z23 := by unfold rd_T23; rw [Int.toNat_natCast]
              obtain ⟨⟨f0, f1, f2, f3⟩, ex⟩ : ∃ x, areas.getD K z23 = x := ⟨_, rfl⟩
              have hat : ∀ w', Below wS32.heap.size wS32 w' → w'.cell? (ad.add (K * 4)) = some (.int .i64 f0) ∧ w'.cell? ⟨(ad.add (K * 4)).block, (ad.add (K * 4)).off + 1, none⟩ = some (.int .i64 f1) ∧ w'.cell? ⟨(ad.add (K * 4)).block, (ad.add (K * 4)).off + 2, none⟩ = some (.int .i64 f2) ∧ w'.cell? ⟨(ad.add (K * 4)).block, (ad.add (K * 4)).off + 3, none⟩ = some (.int .i64 f3) := fun w' hb => by
                obtain ⟨ad', e, c0, c1, c2, c3⟩ := at_T23 (Kd.C_below HL32.out hb) (K : Int) (by omega) (by have : areas.length = 6 := rfl; omega)
                cases e
                rw [er, ex, Int.toNat_natCast] at c0 c1 c2 c3
                exact ⟨c0, c1, c2, c3⟩
              rw [ex] at hfact
              have HAT := Aside0.mk hat
              clear hat er ex
              obtain ⟨c0, c1, c2, c3⟩ := HAT.out _ HS.out
              obtain ⟨h2, h4⟩ := hfact
              have hbx : ∀ w, Calls Try.prog 11 #[.agg #[.int .i64 0, .int .i64 0, .int .i64 64, .int .i64 64], .agg #[.int .i64 f0, .int .i64 f1, .int .i64 f2, .int .i64 f3], .slice none 0 0] w fun e w' => ∃ v u, e = .returned (.tuple #[v, .int .i64 u, .int .i64 2]) ∧ Below w.heap.size w w' := fun w => (blocks_any ⟨0, 0, 64, 64⟩ ⟨f0, f1, f2, f3⟩ none 0 [] w ⟨by decide, by decide, by decide, by decide⟩ h4 (Kd.C_nil _ _) (Nat.le_refl _)).mono fun e w' ⟨v, e1, _, hb⟩ => ⟨v, blkUsed ⟨0, 0, 64, 64⟩ ⟨f0, f1, f2, f3⟩ [], by rw [e1, h2], hb⟩
              have HBX := Aside0.mk hbx
              clear hbx h2 h4
              have HB3 := HS
              have i1 : (0 : Int) ≤ (K : Int) := by omega
              have i2 : (K : Int) < 6 := by omega
              go_upto_region 21 with fail
              go_cut [16, 17, 18] (fun s16 s17 s18 wx => (∃ v, s16 = v) ∧ (∃ u, s17 = .int .i64 u) ∧ s18 = .int .i64 2 ∧ Aside0 (Below wS32.heap.size wS32 wx))
              case first =>
                go_region_held3 (fun w' => w'.cell? (ad.add (K * 4)) = some (.int .i64 f0) ∧ w'.cell? ⟨(ad.add (K * 4)).block, (ad.add (K * 4)).off + 1, none⟩ = some (.int .i64 f1) ∧ w'.cell? ⟨(ad.add (K * 4)).block, (ad.add (K * 4)).off + 2, none⟩ = some (.int .i64 f2) ∧ w'.cell? ⟨(ad.add (K * 4)).block, (ad.add (K * 4)).off + 3, none⟩ = some (.int .i64 f3)) (first | exact ⟨c0, c1, c2, c3⟩ | exact ⟨k0, k1, k2, k3⟩ | exact ⟨j0, j1, j2, j3⟩) ((first | (go_at_call 16; refine (rect_any _ _ _ _ _).mono ?_; rintro e w5 ⟨rfl, hb5⟩; have HB5 : Aside0 (Below wS32.heap.size wS32 w5) := ⟨below_step (by repeat (first | exact HB3.out | apply below_drew1 | apply pw_below_drewN)) hb5⟩; obtain ⟨k0, k1, k2, k3⟩ := HAT.out _ HB5.out) | (go_at_call 11; refine (HBX.out _).mono ?_; rintro e w6 ⟨vy, u1, rfl, hb6⟩; have HB6 : Aside0 (Below wS32.heap.size wS32 w6) := ⟨below_step (by repeat (first | exact HB5.out | exact HB3.out | apply below_drew1 | apply pw_below_drewN)) hb6⟩; obtain ⟨j0, j1, j2, j3⟩ := HAT.out _ HB6.out)))
                go_wp2_with fail
                go_meet
                exact ⟨⟨_, rfl⟩, ⟨_, rfl⟩, rfl, HB6⟩
              case rest =>
                obtain ⟨⟨vy, rfl⟩, ⟨u, rfl⟩, rfl, HB⟩ := hcut
                clear c0 c1 c2 c3
                go_wp2_with fail
                exact ⟨⟨K + 1, by omega, rfl, HB⟩, by simp [intOf]; omega⟩
            · obtain rfl : K = 6 := by omega
              have hb := HS.out
              clear HS
              have HB34 := Aside0.mk (below_step HB33.out hb)
              have HSR34 := Aside0.mk (Kd.R_below HSR33.out hb)
              clear HB33 HSR33 hb
              go_wp2_with fail
              refine (rect_any 0 0 8 8 _).mono ?_
              rintro e w35 ⟨rfl, hb⟩
              have HB36 := Aside0.mk (below_step HB34.out hb)
              have HSR36 := Aside0.mk (Kd.R_below HSR34.out hb)
              clear HB34 HSR34 hb
              have hq := cuts_any ⟨0, 0, 8, 8⟩ 1 w35 (by decide) (by decide)
              rw [show cutErr ⟨0, 0, 8, 8⟩ 1 = 2 from by kernel_rfl] at hq
              go_wp2_with fail
              refine hq.mono ?_
              rintro e w37 ⟨v37, rfl, hr, hb⟩
              clear hr hq
              have HB38 := Aside0.mk (below_step HB36.out hb)
              have HSR38 := Aside0.mk (Kd.R_below HSR36.out hb)
              clear HB36 HSR36 hb
              go_wp2_with fail
              refine (rect_any 0 0 16 16 _).mono ?_
              rintro e w39 ⟨rfl, hb⟩
              have HB40 := Aside0.mk (below_step HB38.out hb)
              have HSR40 := Aside0.mk (Kd.R_below HSR38.out hb)
              clear HB38 HSR38 hb
              have hq := cuts_any ⟨0, 0, 16, 16⟩ 8 w39 (by decide) (by decide)
              rw [show cutErr ⟨0, 0, 16, 16⟩ 8 = 2 from by kernel_rfl] at hq
              go_wp2_with fail
              refine hq.mono ?_
              rintro e w41 ⟨v41, rfl, hr, hb⟩
              clear hr hq
              have HB42 := Aside0.mk (below_step HB40.out hb)
              have HSR42 := Aside0.mk (Kd.R_below HSR40.out hb)
              clear HB40 HSR40 hb
              go_wp2_with fail
              refine (rect_any 0 0 16 16 _).mono ?_
              rintro e w43 ⟨rfl, hb⟩
              have HB44 := Aside0.mk (below_step HB42.out hb)
              have HSR44 := Aside0.mk (Kd.R_below HSR42.out hb)
              clear HB42 HSR42 hb
              have hq := cuts_any ⟨0, 0, 16, 16⟩ (-1) w43 (by decide) (by decide)
              rw [show cutErr ⟨0, 0, 16, 16⟩ (-1) = 2 from by kernel_rfl] at hq
              go_wp2_with fail
              refine hq.mono ?_
              rintro e w45 ⟨v45, rfl, hr, hb⟩
              clear hr hq
              have HB46 := Aside0.mk (below_step HB44.out hb)
              have HSR46 := Aside0.mk (Kd.R_below HSR44.out hb)
              clear HB44 HSR44 hb
              go_wp2_with fail
              refine (rect_any 0 0 32 32 _).mono ?_
              rintro e w47 ⟨rfl, hb⟩
              have HB48 := Aside0.mk (below_step HB46.out hb)
              have HSR48 := Aside0.mk (Kd.R_below HSR46.out hb)
              clear HB46 HSR46 hb
              go_wp2_with fail
              refine (rect_any 0 0 64 64 _).mono ?_
              rintro e w49 ⟨rfl, hb⟩
              have HB50 := Aside0.mk (below_step HB48.out hb)
              have HSR50 := Aside0.mk (Kd.R_below HSR48.out hb)
              clear HB48 HSR48 hb
              have hq := blocks_any ⟨0, 0, 32, 32⟩ ⟨0, 0, 64, 64⟩ none 0 [] w49 ⟨by decide, by decide, by decide, by decide⟩ ⟨by decide, by decide, by decide, by decide⟩ (Kd.C_nil _ _) (Nat.le_refl _)
              rw [show blkErr ⟨0, 0, 32, 32⟩ ⟨0, 0, 64, 64⟩ = 2 from by kernel_rfl] at hq
              go_wp2_with fail
              refine hq.mono ?_
              rintro e w51 ⟨v51, rfl, hr, hb⟩
              clear hr hq
              have HB52 := Aside0.mk (below_step HB50.out hb)
              have HSR52 := Aside0.mk (Kd.R_below HSR50.out hb)
              clear HB50 HSR50 hb
              go_wp2_with fail
              refine (rect_any 1032 0 64 64 _).mono ?_
              rintro e w53 ⟨rfl, hb⟩
              have HB54 := Aside0.mk (below_step HB52.out hb)
              have HSR54 := Aside0.mk (Kd.R_below HSR52.out hb)
              clear HB52 HSR52 hb
              go_wp2_with fail
              refine (rect_any 0 0 64 64 _).mono ?_
              rintro e w55 ⟨rfl, hb⟩
              have HB56 := Aside0.mk (below_step HB54.out hb)
              have HSR56 := Aside0.mk (Kd.R_below HSR54.out hb)
              clear HB54 HSR54 hb
              have hq := blocks_any ⟨1032, 0, 64, 64⟩ ⟨0, 0, 64, 64⟩ none 0 [] w55 ⟨by decide, by decide, by decide, by decide⟩ ⟨by decide, by decide, by decide, by decide⟩ (Kd.C_nil _ _) (Nat.le_refl _)
              rw [show blkErr ⟨1032, 0, 64, 64⟩ ⟨0, 0, 64, 64⟩ = 2 from by kernel_rfl] at hq
              go_wp2_with fail
              refine hq.mono ?_
              rintro e w57 ⟨v57, rfl, hr, hb⟩
              clear hr hq
              have HB58 := Aside0.mk (below_step HB56.out hb)
              have HSR58 := Aside0.mk (Kd.R_below HSR56.out hb)
              clear HB56 HSR56 hb
              go_wp2_with fail
              refine (rect_any 64 0 64 64 _).mono ?_
              rintro e w59 ⟨rfl, hb⟩
              have HB60 := Aside0.mk (below_step HB58.out hb)
              have HSR60 := Aside0.mk (Kd.R_below HSR58.out hb)
              clear HB58 HSR58 hb
              go_wp2_with fail
              refine (rect_any 0 0 64 64 _).mono ?_
              rintro e w61 ⟨rfl, hb⟩
              have HB62 := Aside0.mk (below_step HB60.out hb)
              have HSR62 := Aside0.mk (Kd.R_below HSR60.out hb)
              clear HB60 HSR60 hb
              have hq := blocks_any ⟨64, 0, 64, 64⟩ ⟨0, 0, 64, 64⟩ (some ⟨w61.heap.size, 0, none⟩) 1 [5] (w61.alloc (.cells #[.int .i64 5] 3)) ⟨by decide, by decide, by decide, by decide⟩ ⟨by decide, by decide, by decide, by decide⟩ (lit_C3 [5] (by decide) (heap_alloc_new _ _)) (Nat.le_refl _)
              rw [blk5.1, blk5.2.1, blk5.2.2] at hq
              go_wp2_with fail
              refine hq.mono ?_
              rintro e w63 ⟨v63, rfl, hr, hb0⟩
              have hb := below_step (below_alloc (Below.refl w61.heap.size w61) (.cells #[.int .i64 5] 3)) hb0
              clear hb0
              have HRE0 := Aside0.mk hr
              clear hr hq
              have HB64 := Aside0.mk (below_step HB62.out hb)
              have HSR64 := Aside0.mk (Kd.R_below HSR62.out hb)
              clear HB62 HSR62 hb
              go_wp2_with fail
              refine (rect_any 1024 1024 64 64 _).mono ?_
              rintro e w65 ⟨rfl, hb⟩
              have HB66 := Aside0.mk (below_step HB64.out hb)
              have HSR66 := Aside0.mk (Kd.R_below HSR64.out hb)
              have HRE66 := Aside0.mk (Kd.R_below HRE0.out hb)
              clear HB64 HSR64 HRE0 hb
              go_wp2_with fail
              refine (rect_any 1024 1024 1024 1024 _).mono ?_
              rintro e w67 ⟨rfl, hb⟩
              have HB68 := Aside0.mk (below_step HB66.out hb)
              have HSR68 := Aside0.mk (Kd.R_below HSR66.out hb)
              have HRE68 := Aside0.mk (Kd.R_below HRE66.out hb)
              clear HB66 HSR66 HRE66 hb
              have hq := blocks_any ⟨1024, 1024, 64, 64⟩ ⟨1024, 1024, 1024, 1024⟩ (some ⟨w67.heap.size, 0, none⟩) 1 [(-7)] (w67.alloc (.cells #[.int .i64 (-7)] 3)) ⟨by decide, by decide, by decide, by decide⟩ ⟨by decide, by decide, by decide, by decide⟩ (lit_C3 [(-7)] (by decide) (heap_alloc_new _ _)) (Nat.le_refl _)
              rw [blk7.2.1, blk7.2.2] at hq
              go_wp2_with fail
              refine hq.mono ?_
              rintro e w69 ⟨v69, rfl, hr, hb0⟩
              have hb := below_step (below_alloc (Below.refl w67.heap.size w67) (.cells #[.int .i64 (-7)] 3)) hb0
              clear hb0
              have HRG0 := Aside0.mk hr
              clear hr hq
              have HB70 := Aside0.mk (below_step HB68.out hb)
              have HSR70 := Aside0.mk (Kd.R_below HSR68.out hb)
              have HRE70 := Aside0.mk (Kd.R_below HRE68.out hb)
              clear HB68 HSR68 HRE68 hb
              have HREF := Aside0.mk (Below.refl w69.heap.size w69)
              go_wp2_with ((with_reducible refine gate_dst (N := 194) rfl ?_); refine Kd.R_make (Kd.int .i64) w69.heap.size 3 rfl (N := 194) rfl 24 _ _ rfl (30 : Int) rfl rfl Try.underlying24 (.int .i64 0) 8 PPartTrees.info3 rfl (by decide) (by omega) 0 (ok := fun _ => True) (okp := fun _ => False) rfl (fun _ hk => hk.elim) trivial (by omega) (by omega) HREF.out (Nat.le_refl _) ?_; intro v90 w90 ho hb90 hg hnew; clear hg hnew)
              obtain ⟨A90, c90, rfl, hl90, -⟩ := Kd.R_reads ho
              rw [List.length_replicate, show (30 : Int).toNat = 30 from rfl] at hl90 ho ⊢
              have HO := Aside0.mk ho
              have HBD := Aside0.mk hb90
              clear ho hb90 HREF
              go_loopw [38] (fun v wr4 => ∃ (K : Nat) (ys : List Int), K ≤ 30 ∧ ys = List.replicate K 3 ++ List.replicate (30 - K) 0 ∧ v = .int .i64 K ∧ Aside0 (Kd.R (Kd.int .i64) 3 wr4 w69.heap.size (fun _ => True) (.slice A90 30 c90) ys) ∧ Aside0 (Below w69.heap.size w69 wr4)) (fun v _ => 30 - (intOf v).toNat)
              case atStart => exact ⟨0, _, Nat.zero_le _, rfl, rfl, HO, HBD⟩
              case round =>
                clear HO HBD
                obtain ⟨K, ys, hK, hys, rfl, HO, HBD⟩ := hrel
                by_cases hlt : K < 30
                · have HYS := Aside0.mk hys
                  have hyl : ys.length = 30 := by rw [hys, List.length_append, List.length_replicate, List.length_replicate]; omega
                  clear hys
                  obtain ⟨g, cp, he, gb, gl, cells, hgc⟩ := Kd.R_form HO.out (by omega)
                  injection he with ea en ec
                  subst ea
                  subst ec
                  clear en gl hgc cells gb
                  obtain ⟨-, -, hC⟩ := Kd.R_reads' HO.out
                  obtain ⟨ad, e, hx⟩ := Kd.at_int hC (K : Int) (by omega) (by omega)
                  cases e
                  obtain ⟨x, ex⟩ : ∃ x, rd ys (K : Int) = x := ⟨_, rfl⟩
                  rw [ex] at hx
                  clear ex hC
                  have hcc : ∀ j u, ([.int .i64 x] : List Value)[j]? = some u → wr.cell? ⟨g, (K : Int).toNat * 1 + j, none⟩ = some u := fun j u hu => by
                    cases j with
                    | zero => have h2 : wr.cell? ⟨g, K, none⟩ = some (.int .i64 x) := (by by_cases hk0 : K = 0 <;> simpa [Addr.add, hk0] using hx); rw [Nat.mul_one, Nat.add_zero, Int.toNat_natCast, ← hu]; exact h2
                    | succ j => simp at hu
                  have HCC := Aside0.mk hcc
                  clear hcc hx
                  go_wp2_with (refine Kd.R_store (Kd.int .i64) (w0 := w69) w69.heap.size rfl rfl 3 (.tmp 203) (.const (.int .i64 3)) rfl 3 (K : Int) 0 ys 3 (.int .i64 3) [.int .i64 3] [.int .i64 x] (fun _ => True) (fun _ => False) rfl (show K = (K : Int).toNat * 1 + 0 by omega) rfl rfl (by kernel_rfl) (by decide) HO.out (by omega) (by omega) rfl HCC.out (by decide) (by first | rfl | simp [Kd.int]) (fun _ hk => hk.elim) HBD.out ?_; intro w91 ho hb91 hg)
                  exact ⟨⟨K + 1, _, by omega, by rw [HYS.out, Int.toNat_natCast]; exact fill_set ⟨K, hlt⟩, rfl, ⟨ho⟩, ⟨hb91⟩⟩, by simp [intOf]; omega⟩
                · obtain rfl : K = 30 := by omega
                  rw [show List.replicate 30 (3 : Int) ++ List.replicate (30 - 30) 0 = List.replicate 30 3 from rfl] at hys
                  subst hys
                  obtain ⟨-, -, hC⟩ := Kd.R_reads' HO.out
                  have hb := HBD.out
                  clear HO HBD
                  have HB72 := Aside0.mk (below_step HB70.out hb)
                  have HSR72 := Aside0.mk (Kd.R_below HSR70.out hb)
                  have HRE72 := Aside0.mk (Kd.R_below HRE70.out hb)
                  have HRG72 := Aside0.mk (Kd.R_below HRG0.out hb)
                  clear HB70 HSR70 HRE70 HRG0 hb
                  have HM0 := Aside0.mk hC
                  clear hC
                  go_wp2_with fail
                  refine (rect_any 0 0 64 64 _).mono ?_
                  rintro e w73 ⟨rfl, hb⟩
                  have HB74 := Aside0.mk (below_step HB72.out hb)
                  have HSR74 := Aside0.mk (Kd.R_below HSR72.out hb)
                  have HRE74 := Aside0.mk (Kd.R_below HRE72.out hb)
                  have HRG74 := Aside0.mk (Kd.R_below HRG72.out hb)
                  have HM74 := Aside0.mk (Kd.C_below HM0.out hb)
                  clear HB72 HSR72 HRE72 HRG72 HM0 hb
                  go_wp2_with fail
                  refine (rect_any 0 0 64 64 _).mono ?_
                  rintro e w75 ⟨rfl, hb⟩
                  have HB76 := Aside0.mk (below_step HB74.out hb)
                  have HSR76 := Aside0.mk (Kd.R_below HSR74.out hb)
                  have HRE76 := Aside0.mk (Kd.R_below HRE74.out hb)
                  have HRG76 := Aside0.mk (Kd.R_below HRG74.out hb)
                  have HM76 := Aside0.mk (Kd.C_below HM74.out hb)
                  clear HB74 HSR74 HRE74 HRG74 HM74 hb
                  have hq := blocks_any ⟨0, 0, 64, 64⟩ ⟨0, 0, 64, 64⟩ A90 c90 (List.replicate 30 3) w75 ⟨by decide, by decide, by decide, by decide⟩ ⟨by decide, by decide, by decide, by decide⟩ HM76.out (by rw [List.length_replicate]; omega)
                  rw [List.length_replicate, blkF.2.1, blkF.2.2] at hq
                  go_wp2_with fail
                  refine hq.mono ?_
                  rintro e w77 ⟨v77, rfl, hr, hb⟩
                  have HRF0 := Aside0.mk hr
                  clear hr hq
                  have HB78 := Aside0.mk (below_step HB76.out hb)
                  have HSR78 := Aside0.mk (Kd.R_below HSR76.out hb)
                  have HRE78 := Aside0.mk (Kd.R_below HRE76.out hb)
                  have HRG78 := Aside0.mk (Kd.R_below HRG76.out hb)
                  have HM78 := Aside0.mk (Kd.C_below HM76.out hb)
                  clear HB76 HSR76 HRE76 HRG76 HM76 hb
                  clear HM78
                  obtain ⟨AHSR, cHSR, rfl, hlHSR, -⟩ := Kd.R_reads HSR78.out
                  obtain ⟨AHRE, cHRE, rfl, hlHRE, -⟩ := Kd.R_reads HRE78.out
                  obtain ⟨AHRG, cHRG, rfl, hlHRG, -⟩ := Kd.R_reads HRG78.out
                  obtain ⟨AHRF, cHRF, rfl, hlHRF, -⟩ := Kd.R_reads HRF0.out
                  have HQ7 := Aside0.mk len7
                  have HQF := Aside0.mk blkF.1
                  rw [len7, blkF.1]
                  try rw [show ([] : List S23).length = 0 from rfl]
                  go_wp2_with fail
                  refine (works_any _).mono ?_
                  rintro e w79 ⟨rfl, hb⟩
                  clear HRE78 HRG78 HRF0
                  have HB80 := Aside0.mk (below_step HB78.out hb)
                  have HSR80 := Aside0.mk (Kd.R_below HSR78.out hb)
                  clear HB78 HSR78 hb
                  go_wp2_with fail
                  refine (rect_any 8 0 8 32 _).mono ?_
                  rintro e w81 ⟨rfl, hb⟩
                  have HB82 := Aside0.mk (below_step HB80.out hb)
                  have HSR82 := Aside0.mk (Kd.R_below HSR80.out hb)
                  clear HB80 HSR80 hb
                  go_wp2_with fail
                  refine (rect_any 16 0 8 32 _).mono ?_
                  rintro e w83 ⟨rfl, hb⟩
                  have HB84 := Aside0.mk (below_step HB82.out hb)
                  have HSR84 := Aside0.mk (Kd.R_below HSR82.out hb)
                  clear HB82 HSR82 hb
                  go_wp2_with fail
                  refine (rect_any 24 0 8 32 _).mono ?_
                  rintro e w85 ⟨rfl, hb⟩
                  have HB86 := Aside0.mk (below_step HB84.out hb)
                  have HSR86 := Aside0.mk (Kd.R_below HSR84.out hb)
                  clear HB84 HSR84 hb
                  go_wp2_with fail
                  refine (rect_any 32 0 8 32 _).mono ?_
                  rintro e w87 ⟨rfl, hb⟩
                  have HB88 := Aside0.mk (below_step HB86.out hb)
                  have HSR88 := Aside0.mk (Kd.R_below HSR86.out hb)
                  clear HB86 HSR86 hb
                  obtain ⟨-, -, hC⟩ := Kd.R_reads' HSR88.out
                  have HCC := Aside0.mk hC
                  clear hC
                  go_wp2_with fail
                  refine (same_lit AHSR cHSR strips strips.length w87.heap.size _ w87 rfl rfl rfl (by decide) HCC.out hlHSR).mono ?_
                  rintro e w89 ⟨rfl, ⟨nd, hw⟩⟩
                  have hb : Below w87.heap.size w87 w89 := by rw [hw]; exact pw_below_drewN (below_alloc (Below.refl _ _) _) _
                  clear hw HCC
                  have HB90 := Aside0.mk (below_step HB88.out hb)
                  have HSR90 := Aside0.mk (Kd.R_below HSR88.out hb)
                  clear HB88 HSR88 hb
                  go_wp2_with fail
                  go_ret
                  exact ⟨rfl, HB90.out⟩
theorem law_known (W : World) : Calls Try.prog 4 #[] W fun e w' => e = .returned (.bool true) ∧ Below W.heap.size W w' := known_walk W
end Go.Proofs.Ytjobfnicnoffmaa.Lk
