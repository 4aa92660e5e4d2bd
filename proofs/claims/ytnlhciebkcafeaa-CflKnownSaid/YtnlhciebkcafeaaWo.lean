/- The walk of works: a block and a prediction. -/
import Derived.Test.YtnlhciebkcafeaaAcC
import Derived.Test.YtnlhciebkcafeaaPr
import Derived.Test.YtnlhciebkcafeaaLit
namespace Go.Proofs.Ytnlhciebkcafeaa.Wo
open Go.RowKit Go.Proofs.Ytnlhciebkcafeaa.PCflPredicts Go.Proofs.YtnlhciebkcafeaaW.PrintWords Go.Proofs.YtnlhciebkcafeaaW.PrintLast Go.Proofs.YtnlhciebkcafeaaW.PrintMore Go.Proofs.Ytnlhciebkcafeaa.Cf Go.Proofs.Ytnlhciebkcafeaa.Pd Go.Proofs.Ytnlhciebkcafeaa.Ac Go.Proofs.Ytnlhciebkcafeaa.Pr Go.Proofs.Ytnlhciebkcafeaa.Lit

def half : List Int := [0,0,0,0,0,0,0,0,0,0,0,0,0,0,0,0,0,0,0,0,0,0,0,0,0,0,0,0,0,0,0,0,10,10,10,10,10,10,10,10,10,10,10,10,10,10,10,10,10,10,10,10,10,10,10,10,10,10,10,10,10,10,10,10]
theorem half_eq : zoetropelaw13_halves.f 65 0 10 = some half := by decide +kernel
theorem half_bytes : Bytes half := by unfold Bytes half; decide
theorem half_ac : acAns half 4 4 = [-40, -40, -40, -40, -40, -40, -40, -40, 40, 40, 40, 40, 40, 40, 40, 40] := by decide +kernel
theorem half_err : acErr half 4 4 = 0 := by decide +kernel
theorem three_pr : prAns [100, 100, 100] [40, -40, 3] 2 = [101, 99, 100] := by decide +kernel
theorem three_err : prErr [100, 100, 100] [40, -40, 3] 2 = 0 := by decide +kernel
theorem three_bytes : Bytes [100, 100, 100] := by unfold Bytes; decide

theorem dn_size (w : World) (n : Nat) : (w.drewN n).heap.size = w.heap.size := rfl
theorem al_size (w : World) (o : Obj) : (w.alloc o).heap.size = w.heap.size + 1 := by show (w.heap.push o).size = _; simp
theorem eqi_lit (k : Nat) (A : Option Addr) (c : Nat) (l : List Int) (n g : Nat) (cs : Array Value) (w : World) (hn : l.length = n) (hg : g = w.heap.size) (hcs : cs = (l.map (Value.int .i64)).toArray) (hl : l.length ≤ 100000) (hC : Kd.C (Kd.int .i64) w A l.length l) (hc : l.length ≤ c) (h : zoetroperef00_EqInts.f k l l = some true) :
    Calls Try.prog 11 #[.slice A n c, .slice (some ⟨g, 0, none⟩) n n] (w.alloc (.cells cs 3)) fun e w' => e = .returned (.bool true) ∧ Drawn0 (w.alloc (.cells cs 3)) w' := by
  subst hn
  subst hg
  subst hcs
  exact zoetroperef00_EqInts.calls k A c l _ l.length l true _ (Kd.C_alloc hC _) hc (lit_C l hl (heap_alloc_new _ _)) (Nat.le_refl _) h
theorem eqb_lit (k : Nat) (A : Option Addr) (c : Nat) (l : List Int) (n g : Nat) (cs : Array Value) (w : World) (hn : l.length = n) (hg : g = w.heap.size) (hcs : cs = (l.map (Value.int .u8)).toArray) (hl : l.length ≤ 100000) (hC : Kd.C (Kd.int .u8) w A l.length l) (hc : l.length ≤ c) (h : zoetroperef00_EqBytes.f k l l = some true) :
    Calls Try.prog 12 #[.slice A n c, .slice (some ⟨g, 0, none⟩) n n] (w.alloc (.cells cs 5)) fun e w' => e = .returned (.bool true) ∧ Drawn0 (w.alloc (.cells cs 5)) w' := by
  subst hn
  subst hg
  subst hcs
  exact zoetroperef00_EqBytes.calls k A c l _ l.length l true _ (Kd.C_alloc hC _) hc (lit_C l hl (heap_alloc_new _ _)) (Nat.le_refl _) h
theorem eqi : zoetroperef00_EqInts.f 17 [-40, -40, -40, -40, -40, -40, -40, -40, 40, 40, 40, 40, 40, 40, 40, 40] [-40, -40, -40, -40, -40, -40, -40, -40, 40, 40, 40, 40, 40, 40, 40, 40] = some true := by decide +kernel
theorem eqb : zoetroperef00_EqBytes.f 4 [101, 99, 100] [101, 99, 100] = some true := by decide +kernel
set_option maxRecDepth 100000 in
set_option maxHeartbeats 2000000 in
theorem works_any (w : World) : Calls Try.prog 13 #[] w fun e w' => e = .returned (.bool true) ∧ Below w.heap.size w w' := by
  have hh := half_bytes
  go_enter Try.func13, Try.ntmps13
  go_wp2_with fail
  refine (zoetropelaw13_halves.calls 65 0 10 _ _ half_eq).mono ?_
  rintro e w1 ⟨v1, rfl, hr1, hb1⟩
  obtain ⟨A1, c1, rfl, hl1, hC1⟩ := Kd.R_reads hr1
  go_wp2_with fail
  refine (ac_any A1 c1 half 4 4 _ half_bytes hC1 hl1 (by decide) (by decide)).mono ?_
  rintro e w2 ⟨v2, rfl, hr2, hb2⟩
  rw [half_ac] at hr2
  rw [half_err]
  have hB2 := hb1.trans (hb2.mono hb1.size)
  clear hb1 hb2 hC1 hl1 hr1
  go_wp2_with fail
  have n1 := heap_alloc_new w2 (.cells #[.int .u8 100, .int .u8 100, .int .u8 100] 5)
  have n2 := heap_alloc_new (w2.alloc (.cells #[.int .u8 100, .int .u8 100, .int .u8 100] 5)) (.cells #[.int .i64 40, .int .i64 (-40), .int .i64 3] 3)
  have n1' := old (o := .cells #[.int .i64 40, .int .i64 (-40), .int .i64 3] 3) n1
  have hp := pr_any (some ⟨w2.heap.size, 0, none⟩) (some ⟨w2.heap.size + 1, 0, none⟩) 3 3 [100, 100, 100] [40, -40, 3] 2 ((w2.alloc (.cells #[.int .u8 100, .int .u8 100, .int .u8 100] 5)).alloc (.cells #[.int .i64 40, .int .i64 (-40), .int .i64 3] 3)) three_bytes (lit_C (k := .u8) [100, 100, 100] (by decide) n1') (lit_C (k := .i64) [40, -40, 3] (by decide) (by simpa using n2))
  rw [three_pr, three_err] at hp
  refine hp.mono ?_
  rintro e w3 ⟨v3, rfl, hr3, hb3⟩
  have hs1 := below_size (below2 w2 (.cells #[.int .u8 100, .int .u8 100, .int .u8 100] 5) (.cells #[.int .i64 40, .int .i64 (-40), .int .i64 3] 3))
  have hb23 : Below w2.heap.size w2 w3 := (below2 w2 _ _).trans (hb3.mono hs1)
  have hr2' := Kd.R_below hr2 hb23
  have hB3 := hB2.trans (hb23.mono hB2.size)
  clear hr2 hb23 hb3 hB2 hs1 n1 n2 n1' hp hh
  obtain ⟨A2, c2, rfl, hl2, hC2⟩ := Kd.R_reads hr2'
  obtain ⟨A3, c3, rfl, hl3, hC3⟩ := Kd.R_reads hr3
  clear hr2' hr3
  go_wp2_with fail
  refine (eqi_lit 17 A2 c2 _ _ _ _ _ rfl rfl rfl (by decide) hC2 hl2 eqi).mono ?_
  rintro e w4 ⟨rfl, ⟨nd, rfl⟩⟩
  clear hl2 hC2
  go_wp2_with fail
  refine (eqb_lit 4 A3 c3 _ _ _ _ _ rfl (by rw [dn_size, al_size]) rfl (by decide) (Kd.C_drewN (Kd.C_alloc hC3 _) _) hl3 eqb).mono ?_
  rintro e w5 ⟨rfl, ⟨nd2, rfl⟩⟩
  go_wp2_with fail
  go_ret
  exact ⟨rfl, pw_below_drewN (below_alloc (pw_below_drewN (below_alloc hB3 _) _) _) _⟩
end Go.Proofs.Ytnlhciebkcafeaa.Wo
