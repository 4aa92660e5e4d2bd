/- The walk of works: squares are cut. -/
import Derived.Test.YtjobfnicnoffmaaBk
namespace Go.Proofs.Ytjobfnicnoffmaa.Wk
open Go.RowKit Go.Proofs.Ytjobfnicnoffmaa.PPartTrees Go.Proofs.YtjobfnicnoffmaaW.PrintWords Go.Proofs.YtjobfnicnoffmaaW.PrintLast Go.Proofs.YtjobfnicnoffmaaW.PrintMore Go.Proofs.Ytjobfnicnoffmaa.Pt Go.Proofs.Ytjobfnicnoffmaa.Ph Go.Proofs.Ytjobfnicnoffmaa.Li Go.Proofs.Ytjobfnicnoffmaa.Pc Go.Proofs.Ytjobfnicnoffmaa.Bk

theorem same_round (k : Nat) (l : List S23) (i : Nat) (hi : i < l.length) (hl : l.length ≤ 100000) : zoetropelaw16_same.l0 (k + 1) l l i = zoetropelaw16_same.l0 k l l (i + 1 : Nat) := by
  rw [zoetropelaw16_same.l0]
  have e1 := w64 (n := (i : Int) + 1) (by omega) (by omega)
  rw [if_pos (by omega), if_pos (by omega), if_pos (by omega), if_neg (by simp), e1]
  rfl
theorem same_loop (l : List S23) (hl : l.length ≤ 100000) (d : Nat) : ∀ i : Nat, i + d = l.length → zoetropelaw16_same.l0 (d + 1) l l i = some true := by
  induction d with
  | zero => intro i h; rw [zoetropelaw16_same.l0, if_neg (by omega)]
  | succ d ih => intro i h; rw [same_round (d + 1) l i (by omega) hl]; exact ih (i + 1) (by omega)
theorem same_self (l : List S23) (hl : l.length ≤ 100000) : zoetropelaw16_same.f (l.length + 1) l l = some true := by
  unfold zoetropelaw16_same.f
  rw [if_pos rfl]
  exact same_loop l hl l.length 0 (by simp)
theorem same_any (A B : Option Addr) (c d : Nat) (l : List S23) (w : World) (h1 : Kd.C k23 w A l.length l) (h2 : l.length ≤ c) (h3 : Kd.C k23 w B l.length l) (h4 : l.length ≤ d) (hl : l.length ≤ 100000) :
    Calls Try.prog 13 #[.slice A l.length c, .slice B l.length d] w fun e w' => e = .returned (.bool true) ∧ Drawn0 w w' := zoetropelaw16_same.calls (l.length + 1) A c l B d l true w h1 h2 h3 h4 (same_self l hl)
theorem same_lit (A : Option Addr) (c : Nat) (l : List S23) (n g : Nat) (cs : Array Value) (w : World) (hn : l.length = n) (hg : g = w.heap.size) (hcs : cs = (l.flatMap cS).toArray) (hl : l.length ≤ 1000) (hC : Kd.C k23 w A l.length l) (hc : l.length ≤ c) :
    Calls Try.prog 13 #[.slice A n c, .slice (some ⟨g, 0, none⟩) n n] (w.alloc (.cells cs 23)) fun e w' => e = .returned (.bool true) ∧ Drawn0 (w.alloc (.cells cs 23)) w' := by
  subst hn
  subst hg
  subst hcs
  exact same_any A _ c l.length l _ (Kd.C_alloc hC _) hc (lit_C23 l (by omega) (heap_alloc_new _ _)) (Nat.le_refl _) (by omega)
theorem rect_any (x y w h : Int) (W : World) : Calls Try.prog 16 #[.int .i64 x, .int .i64 y, .int .i64 w, .int .i64 h] W fun e w' => e = .returned (.agg #[.int .i64 x, .int .i64 y, .int .i64 w, .int .i64 h]) ∧ Below W.heap.size W w' := zoetropelaw16_rect.calls x y w h x y w h W rfl
def LA : List S23 := [⟨0, 0, 8, 8⟩, ⟨8, 0, 8, 8⟩, ⟨0, 8, 16, 8⟩]
def LB : List S23 := [⟨0, 0, 16, 16⟩, ⟨16, 0, 8, 8⟩, ⟨16, 8, 8, 8⟩]
def LC : List S23 := [⟨0, 0, 32, 16⟩, ⟨0, 16, 32, 16⟩, ⟨32, 0, 32, 32⟩, ⟨0, 32, 32, 32⟩, ⟨32, 32, 32, 32⟩]
theorem cutA : cutAns ⟨0, 0, 16, 16⟩ 4 = LA ∧ cutErr ⟨0, 0, 16, 16⟩ 4 = 0 := ⟨by kernel_rfl, by kernel_rfl⟩
theorem blkB : blkAns ⟨0, 0, 64, 64⟩ ⟨0, 0, 24, 16⟩ [] = LB ∧ blkErr ⟨0, 0, 64, 64⟩ ⟨0, 0, 24, 16⟩ = 0 ∧ blkUsed ⟨0, 0, 64, 64⟩ ⟨0, 0, 24, 16⟩ [] = 0 := ⟨by kernel_rfl, by kernel_rfl, by kernel_rfl⟩
theorem blkC : blkAns ⟨0, 0, 64, 64⟩ ⟨0, 0, 64, 64⟩ [13, 1] = LC ∧ blkErr ⟨0, 0, 64, 64⟩ ⟨0, 0, 64, 64⟩ = 0 ∧ blkUsed ⟨0, 0, 64, 64⟩ ⟨0, 0, 64, 64⟩ [13, 1] = 2 := ⟨by kernel_rfl, by kernel_rfl, by kernel_rfl⟩
set_option maxRecDepth 100000 in
set_option maxHeartbeats 4000000 in
theorem works_any (w : World) : Calls Try.prog 9 #[] w fun e w' => e = .returned (.bool true) ∧ Below w.heap.size w w' := by
  have HB0 := Aside0.mk (Below.refl w.heap.size w)
  go_enter Try.func9, Try.ntmps9
  go_wp2_with fail
  refine (rect_any 0 0 16 16 _).mono ?_
  rintro e w1 ⟨rfl, hb⟩
  have HB1 := Aside0.mk (below_step HB0.out hb)
  clear HB0 hb
  have hq := cuts_any ⟨0, 0, 16, 16⟩ 4 w1 (by decide) (by decide)
  rw [cutA.1, cutA.2] at hq
  go_wp2_with fail
  refine hq.mono ?_
  rintro e w2 ⟨va, rfl, hr, hb⟩
  have HRA2 := Aside0.mk hr
  clear hr hq
  have HB2 := Aside0.mk (below_step HB1.out hb)
  clear HB1 hb
  go_wp2_with fail
  refine (rect_any 0 0 64 64 _).mono ?_
  rintro e w3 ⟨rfl, hb⟩
  have HB3 := Aside0.mk (below_step HB2.out hb)
  have HRA3 := Aside0.mk (Kd.R_below HRA2.out hb)
  clear HB2 HRA2 hb
  go_wp2_with fail
  refine (rect_any 0 0 24 16 _).mono ?_
  rintro e w4 ⟨rfl, hb⟩
  have HB4 := Aside0.mk (below_step HB3.out hb)
  have HRA4 := Aside0.mk (Kd.R_below HRA3.out hb)
  clear HB3 HRA3 hb
  have hq := blocks_any ⟨0, 0, 64, 64⟩ ⟨0, 0, 24, 16⟩ none 0 [] w4 ⟨by decide, by decide, by decide, by decide⟩ ⟨by decide, by decide, by decide, by decide⟩ (Kd.C_nil _ _) (Nat.le_refl _)
  rw [blkB.1, blkB.2.1, blkB.2.2] at hq
  go_wp2_with fail
  refine hq.mono ?_
  rintro e w5 ⟨vb, rfl, hr, hb⟩
  have HRB5 := Aside0.mk hr
  clear hr hq
  have HB5 := Aside0.mk (below_step HB4.out hb)
  have HRA5 := Aside0.mk (Kd.R_below HRA4.out hb)
  clear HB4 HRA4 hb
  go_wp2_with fail
  refine (rect_any 0 0 64 64 _).mono ?_
  rintro e w6 ⟨rfl, hb⟩
  have HB6 := Aside0.mk (below_step HB5.out hb)
  have HRA6 := Aside0.mk (Kd.R_below HRA5.out hb)
  have HRB6 := Aside0.mk (Kd.R_below HRB5.out hb)
  clear HB5 HRA5 HRB5 hb
  go_wp2_with fail
  refine (rect_any 0 0 64 64 _).mono ?_
  rintro e w7 ⟨rfl, hb⟩
  have HB7 := Aside0.mk (below_step HB6.out hb)
  have HRA7 := Aside0.mk (Kd.R_below HRA6.out hb)
  have HRB7 := Aside0.mk (Kd.R_below HRB6.out hb)
  clear HB6 HRA6 HRB6 hb
  have hq := blocks_any ⟨0, 0, 64, 64⟩ ⟨0, 0, 64, 64⟩ (some ⟨w7.heap.size, 0, none⟩) 2 [13, 1] (w7.alloc (.cells #[.int .i64 13, .int .i64 1] 3)) ⟨by decide, by decide, by decide, by decide⟩ ⟨by decide, by decide, by decide, by decide⟩ (lit_C3 [13, 1] (by decide) (heap_alloc_new _ _)) (Nat.le_refl _)
  rw [blkC.1, blkC.2.1, blkC.2.2] at hq
  go_wp2_with fail
  refine hq.mono ?_
  rintro e w8 ⟨vc, rfl, hr, hb0⟩
  have hb := below_step (below_alloc (Below.refl w7.heap.size w7) (.cells #[.int .i64 13, .int .i64 1] 3)) hb0
  have HRC8 := Aside0.mk hr
  clear hr hq hb0
  have HB8 := Aside0.mk (below_step HB7.out hb)
  have HRA8 := Aside0.mk (Kd.R_below HRA7.out hb)
  have HRB8 := Aside0.mk (Kd.R_below HRB7.out hb)
  clear HB7 HRA7 HRB7 hb
  obtain ⟨Ava, cva, rfl, hlva, -⟩ := Kd.R_reads HRA8.out
  obtain ⟨Avb, cvb, rfl, hlvb, -⟩ := Kd.R_reads HRB8.out
  obtain ⟨Avc, cvc, rfl, hlvc, -⟩ := Kd.R_reads HRC8.out
  go_wp2_with fail
  refine (rect_any 0 0 8 8 _).mono ?_
  rintro e w9 ⟨rfl, hb⟩
  have HB9 := Aside0.mk (below_step HB8.out hb)
  have HRA9 := Aside0.mk (Kd.R_below HRA8.out hb)
  have HRB9 := Aside0.mk (Kd.R_below HRB8.out hb)
  have HRC9 := Aside0.mk (Kd.R_below HRC8.out hb)
  clear HB8 HRA8 HRB8 HRC8 hb
  go_wp2_with fail
  refine (rect_any 8 0 8 8 _).mono ?_
  rintro e w10 ⟨rfl, hb⟩
  have HB10 := Aside0.mk (below_step HB9.out hb)
  have HRA10 := Aside0.mk (Kd.R_below HRA9.out hb)
  have HRB10 := Aside0.mk (Kd.R_below HRB9.out hb)
  have HRC10 := Aside0.mk (Kd.R_below HRC9.out hb)
  clear HB9 HRA9 HRB9 HRC9 hb
  go_wp2_with fail
  refine (rect_any 0 8 16 8 _).mono ?_
  rintro e w11 ⟨rfl, hb⟩
  have HB11 := Aside0.mk (below_step HB10.out hb)
  have HRA11 := Aside0.mk (Kd.R_below HRA10.out hb)
  have HRB11 := Aside0.mk (Kd.R_below HRB10.out hb)
  have HRC11 := Aside0.mk (Kd.R_below HRC10.out hb)
  clear HB10 HRA10 HRB10 HRC10 hb
  obtain ⟨-, -, hC⟩ := Kd.R_reads' HRA11.out
  have HCC := Aside0.mk hC
  clear hC
  go_wp2_with fail
  refine (same_lit Ava cva LA LA.length w11.heap.size _ w11 rfl rfl rfl (by decide) HCC.out hlva).mono ?_
  rintro e w12 ⟨rfl, ⟨nd, hw⟩⟩
  have hb : Below w11.heap.size w11 w12 := by rw [hw]; exact pw_below_drewN (below_alloc (Below.refl _ _) _) _
  clear hw HCC
  have HB12 := Aside0.mk (below_step HB11.out hb)
  have HRA12 := Aside0.mk (Kd.R_below HRA11.out hb)
  have HRB12 := Aside0.mk (Kd.R_below HRB11.out hb)
  have HRC12 := Aside0.mk (Kd.R_below HRC11.out hb)
  clear HB11 HRA11 HRB11 HRC11 hb
  go_wp2_with fail
  refine (rect_any 0 0 16 16 _).mono ?_
  rintro e w13 ⟨rfl, hb⟩
  have HB13 := Aside0.mk (below_step HB12.out hb)
  have HRA13 := Aside0.mk (Kd.R_below HRA12.out hb)
  have HRB13 := Aside0.mk (Kd.R_below HRB12.out hb)
  have HRC13 := Aside0.mk (Kd.R_below HRC12.out hb)
  clear HB12 HRA12 HRB12 HRC12 hb
  go_wp2_with fail
  refine (rect_any 16 0 8 8 _).mono ?_
  rintro e w14 ⟨rfl, hb⟩
  have HB14 := Aside0.mk (below_step HB13.out hb)
  have HRA14 := Aside0.mk (Kd.R_below HRA13.out hb)
  have HRB14 := Aside0.mk (Kd.R_below HRB13.out hb)
  have HRC14 := Aside0.mk (Kd.R_below HRC13.out hb)
  clear HB13 HRA13 HRB13 HRC13 hb
  go_wp2_with fail
  refine (rect_any 16 8 8 8 _).mono ?_
  rintro e w15 ⟨rfl, hb⟩
  have HB15 := Aside0.mk (below_step HB14.out hb)
  have HRA15 := Aside0.mk (Kd.R_below HRA14.out hb)
  have HRB15 := Aside0.mk (Kd.R_below HRB14.out hb)
  have HRC15 := Aside0.mk (Kd.R_below HRC14.out hb)
  clear HB14 HRA14 HRB14 HRC14 hb
  obtain ⟨-, -, hC⟩ := Kd.R_reads' HRB15.out
  have HCC := Aside0.mk hC
  clear hC
  go_wp2_with fail
  refine (same_lit Avb cvb LB LB.length w15.heap.size _ w15 rfl rfl rfl (by decide) HCC.out hlvb).mono ?_
  rintro e w16 ⟨rfl, ⟨nd, hw⟩⟩
  have hb : Below w15.heap.size w15 w16 := by rw [hw]; exact pw_below_drewN (below_alloc (Below.refl _ _) _) _
  clear hw HCC
  have HB16 := Aside0.mk (below_step HB15.out hb)
  have HRA16 := Aside0.mk (Kd.R_below HRA15.out hb)
  have HRB16 := Aside0.mk (Kd.R_below HRB15.out hb)
  have HRC16 := Aside0.mk (Kd.R_below HRC15.out hb)
  clear HB15 HRA15 HRB15 HRC15 hb
  go_wp2_with fail
  refine (rect_any 0 0 32 16 _).mono ?_
  rintro e w17 ⟨rfl, hb⟩
  have HB17 := Aside0.mk (below_step HB16.out hb)
  have HRA17 := Aside0.mk (Kd.R_below HRA16.out hb)
  have HRB17 := Aside0.mk (Kd.R_below HRB16.out hb)
  have HRC17 := Aside0.mk (Kd.R_below HRC16.out hb)
  clear HB16 HRA16 HRB16 HRC16 hb
  go_wp2_with fail
  refine (rect_any 0 16 32 16 _).mono ?_
  rintro e w18 ⟨rfl, hb⟩
  have HB18 := Aside0.mk (below_step HB17.out hb)
  have HRA18 := Aside0.mk (Kd.R_below HRA17.out hb)
  have HRB18 := Aside0.mk (Kd.R_below HRB17.out hb)
  have HRC18 := Aside0.mk (Kd.R_below HRC17.out hb)
  clear HB17 HRA17 HRB17 HRC17 hb
  go_wp2_with fail
  refine (rect_any 32 0 32 32 _).mono ?_
  rintro e w19 ⟨rfl, hb⟩
  have HB19 := Aside0.mk (below_step HB18.out hb)
  have HRA19 := Aside0.mk (Kd.R_below HRA18.out hb)
  have HRB19 := Aside0.mk (Kd.R_below HRB18.out hb)
  have HRC19 := Aside0.mk (Kd.R_below HRC18.out hb)
  clear HB18 HRA18 HRB18 HRC18 hb
  go_wp2_with fail
  refine (rect_any 0 32 32 32 _).mono ?_
  rintro e w20 ⟨rfl, hb⟩
  have HB20 := Aside0.mk (below_step HB19.out hb)
  have HRA20 := Aside0.mk (Kd.R_below HRA19.out hb)
  have HRB20 := Aside0.mk (Kd.R_below HRB19.out hb)
  have HRC20 := Aside0.mk (Kd.R_below HRC19.out hb)
  clear HB19 HRA19 HRB19 HRC19 hb
  go_wp2_with fail
  refine (rect_any 32 32 32 32 _).mono ?_
  rintro e w21 ⟨rfl, hb⟩
  have HB21 := Aside0.mk (below_step HB20.out hb)
  have HRA21 := Aside0.mk (Kd.R_below HRA20.out hb)
  have HRB21 := Aside0.mk (Kd.R_below HRB20.out hb)
  have HRC21 := Aside0.mk (Kd.R_below HRC20.out hb)
  clear HB20 HRA20 HRB20 HRC20 hb
  obtain ⟨-, -, hC⟩ := Kd.R_reads' HRC21.out
  have HCC := Aside0.mk hC
  clear hC
  go_wp2_with fail
  refine (same_lit Avc cvc LC LC.length w21.heap.size _ w21 rfl rfl rfl (by decide) HCC.out hlvc).mono ?_
  rintro e w22 ⟨rfl, ⟨nd, hw⟩⟩
  have hb : Below w21.heap.size w21 w22 := by rw [hw]; exact pw_below_drewN (below_alloc (Below.refl _ _) _) _
  clear hw HCC
  have HB22 := Aside0.mk (below_step HB21.out hb)
  have HRA22 := Aside0.mk (Kd.R_below HRA21.out hb)
  have HRB22 := Aside0.mk (Kd.R_below HRB21.out hb)
  have HRC22 := Aside0.mk (Kd.R_below HRC21.out hb)
  clear HB21 HRA21 HRB21 HRC21 hb
  go_wp2_with fail
  go_ret
  exact ⟨rfl, HB22.out⟩
end Go.Proofs.Ytjobfnicnoffmaa.Wk
