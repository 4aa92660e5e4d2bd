/- Plain facts for CflKnown: the chapter's examples, reckoned. -/
import Derived.Test.YtnlhciebkcafeaaLm
import Derived.Test.YtnlhciebkcafeaaCs
namespace Go.Proofs.Ytnlhciebkcafeaa.Kn
open Go.RowKit Go.Proofs.Ytnlhciebkcafeaa.PCflMean Go.Proofs.YtnlhciebkcafeaaW.PrintWords Go.Proofs.YtnlhciebkcafeaaW.PrintLast Go.Proofs.YtnlhciebkcafeaaW.PrintMore Go.Proofs.Ytnlhciebkcafeaa.Cf Go.Proofs.Ytnlhciebkcafeaa.Pd Go.Proofs.Ytnlhciebkcafeaa.Ac Go.Proofs.Ytnlhciebkcafeaa.Cm Go.Proofs.Ytnlhciebkcafeaa.Lm

theorem rep_bytes (n : Nat) (b : Int) (h : 0 ≤ b ∧ b ≤ 255) : Bytes (List.replicate n b) := fun x hx => by rw [List.eq_of_mem_replicate hx]; exact h
/-- A block of one number in order. -/
theorem flat_ac (b : Int) (w h : Nat) (w0 : 4 ≤ w) (w1 : w ≤ 32) (w2 : w % 4 = 0) (h0 : 4 ≤ h) (h1 : h ≤ 32) (h2 : h % 4 = 0) : acErr (List.replicate (4 * w * h) b) w h = 0 ∧ acAns (List.replicate (4 * w * h) b) w h = List.replicate (w * h) 0 := by
  obtain ⟨e, a⟩ := ac_good (List.replicate (4 * w * h) b) w h w0 w1 w2 h0 h1 h2 (by simp)
  refine ⟨e, ?_⟩
  rw [a]
  exact const_acs b _ w h (by omega) (Nat.mul_pos (by omega) (by omega)) rfl
theorem nine : PCflAcs.zoetropelaw13_halves.f 65 9 9 = some (List.replicate 64 9) := by decide +kernel
theorem most_round (k : Nat) (i : Nat) (n : Nat) (hi : i < n) (hn : n ≤ 4096) : zoetropelaw13_luma.l0 (k + 1) [255] ((List.replicate i 255) ++ List.replicate (n - i) 0) i = zoetropelaw13_luma.l0 k [255] ((List.replicate (i + 1) 255) ++ List.replicate (n - (i + 1)) 0) (i + 1 : Nat) := by
  have e1 := Aside0.mk (w64 (n := (i : Int) + 1) (by omega) (by omega))
  have e2 := Aside0.mk (w64 (n := 5 * (i : Int)) (by omega) (by omega))
  have hl : ((List.replicate i (255 : Int)) ++ List.replicate (n - i) 0).length = n := by simp; omega
  rw [zoetropelaw13_luma.l0]
  simp only [e1.out, e2.out, hl, Option.bind_some]
  rw [if_pos (by omega), if_pos (by omega)]
  have h1 : ((([255] : List Int).length : Nat) : Int) = 1 := rfl
  have hset : ((List.replicate i (255 : Int)) ++ List.replicate (n - i) 0).set i 255 = (List.replicate (i + 1) 255) ++ List.replicate (n - (i + 1)) 0 := by
    rw [List.set_append_right _ _ (by simp), List.length_replicate, Nat.sub_self, show n - i = (n - (i + 1)) + 1 by omega, List.replicate_succ, List.set_cons_zero, List.replicate_succ', List.append_assoc]
    rfl
  rw [if_pos (by rw [h1]; omega), if_neg (by rw [h1]; omega), h1, Int.tmod_one, if_pos (by omega), if_pos (by omega)]
  rw [Int.toNat_natCast, List.set_set]
  exact congrArg (fun l => zoetropelaw13_luma.l0 k [255] l ((i + 1 : Nat) : Int)) hset
theorem most_loop (d : Nat) : ∀ i n : Nat, i + d = n → n ≤ 4096 → zoetropelaw13_luma.l0 (d + 1) [255] ((List.replicate i 255) ++ List.replicate (n - i) 0) i = some (List.replicate n 255) := by
  induction d with
  | zero =>
    intro i n h hn
    obtain rfl : i = n := by omega
    rw [zoetropelaw13_luma.l0, if_neg (by simp)]
    simp
  | succ d ih =>
    intro i n h hn
    rw [most_round (d + 1) i n (by omega) hn]
    exact ih (i + 1) n (by omega) hn
theorem most : zoetropelaw13_luma.f 4097 [255] 32 32 = some (List.replicate 4096 255) := by
  have h := most_loop 4096 0 4096 rfl (Nat.le_refl _)
  unfold zoetropelaw13_luma.f
  have e : wrap64 (wrap64 (4 * 32) * 32) = 4096 := by decide +kernel
  rw [e, if_pos (by decide), if_pos (by decide)]
  exact h
def six : List Int := [1, 2, 3, 4, 5, 6, 7, 8, 9, 10, 11, 12, 13, 14, 15, 16]
def obl : List Int := (List.range 128).map fun i => ((i % 16 + 1 : Nat) : Int)
theorem obl_eq : zoetropelaw13_luma.f 129 six 8 4 = some obl := by decide +kernel
theorem obl_bytes : Bytes obl := by unfold Bytes; decide +kernel
def oblA : List Int := acAns obl 8 4
theorem obl_err : acErr obl 8 4 = 0 := by decide +kernel
theorem obl_len : oblA.length = 32 := by decide +kernel
theorem obl_0 : oblA.getD 0 0 = -56 := by decide +kernel
theorem obl_7 : oblA.getD 7 0 = 56 := by decide +kernel
theorem obl_31 : oblA.getD 31 0 = 56 := by decide +kernel
/-- A prediction's example: a sample, a number, an alpha; its answer. -/
structure T3 where
  a : Int
  b : Int
  c : Int
def zt : T3 := ⟨0, 0, 0⟩
def exs : List T3 := [⟨100, 40, -16⟩, ⟨250, 2048, 16⟩, ⟨5, -2048, 16⟩, ⟨100, 16, 2⟩, ⟨100, 15, 2⟩, ⟨100, -16, 2⟩, ⟨100, -15, 2⟩, ⟨0, -1, 16⟩, ⟨255, 2, 16⟩, ⟨100, 2, 16⟩]
def outs : List Int := [90, 255, 0, 101, 100, 99, 100, 0, 255, 101]
theorem exs_ok : ∀ k : Nat, k < 10 → prErr [(exs.getD k zt).a] [(exs.getD k zt).b] (exs.getD k zt).c = 0 ∧ prAns [(exs.getD k zt).a] [(exs.getD k zt).b] (exs.getD k zt).c = [outs.getD k 0] ∧ (0 ≤ (exs.getD k zt).a ∧ (exs.getD k zt).a ≤ 255) ∧ (-2048 ≤ (exs.getD k zt).b ∧ (exs.getD k zt).b ≤ 2048) ∧ (-16 ≤ (exs.getD k zt).c ∧ (exs.getD k zt).c ≤ 16) ∧ (0 ≤ outs.getD k 0 ∧ outs.getD k 0 ≤ 255) := by decide +kernel
theorem outs_take (k : Nat) (hk : k < 10) : outs.take k ++ [outs.getD k 0] = outs.take (k + 1) := by
  rw [List.take_succ_eq_append_getElem (show k < outs.length from hk), List.getD_eq_getElem?_getD, List.getElem?_eq_getElem (show k < outs.length from hk)]; rfl
theorem bad1 : prErr [1] [2049] 1 = 2 ∧ prAns [1] [2049] 1 = [] := by decide +kernel
theorem bad2 : prErr [1] [-2049] 1 = 2 ∧ prAns [1] [-2049] 1 = [] := by decide +kernel
theorem bad3 : prErr [1] [1] 17 = 2 ∧ prAns [1] [1] 17 = [] := by decide +kernel
theorem bad4 : prErr [1] [1] (-17) = 2 ∧ prAns [1] [1] (-17) = [] := by decide +kernel
theorem good0 : prErr [] [] 0 = 0 ∧ prAns [] [] 0 = [] := by decide +kernel
theorem one_bytes : Bytes [1] := by unfold Bytes; decide
def n9 : List Int := List.replicate 64 9
def mo : List Int := List.replicate 4096 255
def z16 : List Int := List.replicate 16 0
def zk : List Int := List.replicate 1024 0
theorem n9_eq : PCflAcs.zoetropelaw13_halves.f 65 9 9 = some n9 := nine
theorem n9_len : n9.length = 64 := List.length_replicate
theorem n9_bytes : Bytes n9 := rep_bytes 64 9 (by omega)
theorem n9_ac : acErr n9 4 4 = 0 ∧ acAns n9 4 4 = z16 := flat_ac 9 4 4 (by omega) (by omega) (by omega) (by omega) (by omega) (by omega)
theorem mo_eq : zoetropelaw13_luma.f 4097 [255] 32 32 = some mo := most
theorem mo_len : mo.length = 4096 := List.length_replicate
theorem mo_bytes : Bytes mo := rep_bytes 4096 255 (by omega)
theorem mo_ac : acErr mo 32 32 = 0 ∧ acAns mo 32 32 = zk := flat_ac 255 32 32 (by omega) (by omega) (by omega) (by omega) (by omega) (by omega)
theorem z16_len : z16.length = 16 := List.length_replicate
theorem zk_len : zk.length = 1024 := List.length_replicate
theorem obl_l : obl.length = 128 := by decide +kernel
theorem obl_ac : acErr obl 8 4 = 0 ∧ acAns obl 8 4 = oblA := ⟨obl_err, rfl⟩
/-- The cells of the examples' literal. -/
def exC : Array Value := #[.int .i64 100, .int .i64 40, .int .i64 (-16), .int .i64 250, .int .i64 2048, .int .i64 16, .int .i64 5, .int .i64 (-2048), .int .i64 16, .int .i64 100, .int .i64 16, .int .i64 2, .int .i64 100, .int .i64 15, .int .i64 2, .int .i64 100, .int .i64 (-16), .int .i64 2, .int .i64 100, .int .i64 (-15), .int .i64 2, .int .i64 0, .int .i64 (-1), .int .i64 16, .int .i64 255, .int .i64 2, .int .i64 16, .int .i64 100, .int .i64 2, .int .i64 16]
theorem exC_at (k : Nat) (hk : k < 10) : exC[k * 3]? = some (.int .i64 (exs.getD k zt).a) ∧ exC[k * 3 + 1]? = some (.int .i64 (exs.getD k zt).b) ∧ exC[k * 3 + 2]? = some (.int .i64 (exs.getD k zt).c) := by
  rcases (show k = 0 ∨ k = 1 ∨ k = 2 ∨ k = 3 ∨ k = 4 ∨ k = 5 ∨ k = 6 ∨ k = 7 ∨ k = 8 ∨ k = 9 by omega) with rfl | rfl | rfl | rfl | rfl | rfl | rfl | rfl | rfl | rfl <;> exact ⟨rfl, rfl, rfl⟩
theorem ex_cells {W : World} {g t : Nat} (h : W.heap[g]? = some (.cells exC t (0, 0))) (k : Nat) (hk : k < 10) : W.cell? ⟨g, k * 3, none⟩ = some (.int .i64 (exs.getD k zt).a) ∧ W.cell? ⟨g, k * 3 + 1, none⟩ = some (.int .i64 (exs.getD k zt).b) ∧ W.cell? ⟨g, k * 3 + 2, none⟩ = some (.int .i64 (exs.getD k zt).c) :=
  ⟨(blk_cell h _).trans (exC_at k hk).1, (blk_cell h _).trans (exC_at k hk).2.1, (blk_cell h _).trans (exC_at k hk).2.2⟩
theorem mk5 : ∃ Z : Array Value, ∀ W, (Instr.makeSlice 22 (.int .i64 1025) (.int .i64 1025)).run Try.prog W = .ok (.slice (some ⟨W.heap.size, 0, none⟩) 1025 1025) (W.alloc (.cells Z 5)) := by
  obtain ⟨i0, hi, hzz⟩ := Option.map_eq_some_iff.1 PCflAcs.info5
  simp only [Prod.mk.injEq] at hzz
  obtain ⟨hz0, hz1, hz2⟩ := hzz
  have hr := fun W => run_make (P := Try.prog) W 22 5 i0 _ Try.underlying22 hi hz0 .i64 .i64 1025 1025 (by omega) (by omega) (by rw [hz2]; decide) (by omega)
  exact ⟨_, fun W => hr W⟩
theorem mk3 : ∃ Z : Array Value, ∀ W, (Instr.makeSlice 24 (.int .i64 1025) (.int .i64 1025)).run Try.prog W = .ok (.slice (some ⟨W.heap.size, 0, none⟩) 1025 1025) (W.alloc (.cells Z 3)) := by
  obtain ⟨i0, hi, hzz⟩ := Option.map_eq_some_iff.1 PCflAcs.info3
  simp only [Prod.mk.injEq] at hzz
  obtain ⟨hz0, hz1, hz2⟩ := hzz
  have hr := fun W => run_make (P := Try.prog) W 24 3 i0 _ Try.underlying24 hi hz0 .i64 .i64 1025 1025 (by omega) (by omega) (by rw [hz2]; decide) (by omega)
  exact ⟨_, fun W => hr W⟩
end Go.Proofs.Ytnlhciebkcafeaa.Kn
