/- Plain facts for QuantKnown: the chapter's examples, reckoned; rows that the text names, read. -/
import Derived.Test.YtgflgeblimiocaaLo
import Derived.Test.YtgflgeblimiocaaWk
import Derived.Test.YtgflgeblimiocaaLow
import Derived.Test.YtgflgeblimiocaaPQuantKnownx1
import Derived.Laws.IdiomRangeMap
namespace Go.Proofs.Ytgflgeblimiocaa.Kp
open Go.RowKit Go.Proofs.Ytgflgeblimiocaa.PQuantSteps Go.Proofs.YtgflgeblimiocaaW.PrintWords Go.Proofs.YtgflgeblimiocaaW.PrintLast Go.Proofs.YtgflgeblimiocaaW.PrintMore Go.Proofs.Ytgflgeblimiocaa.Q Go.Proofs.Ytgflgeblimiocaa.St

theorem info3 : (Try.prog.info? 3).map (fun i => (i.zero, i.size, i.bytes)) = some (some (.int .i64 0), 1, 8) := by kernel_rfl
theorem lit_C {k : IntKind} (l : List Int) {w : World} {g t : Nat} {fr : Nat × Nat} (hl : l.length ≤ 100000) (hg : w.heap[g]? = some (.cells (l.map (Value.int k)).toArray t fr)) : Kd.C (Kd.int k) w (some ⟨g, 0, none⟩) l.length l := by
  refine Kd.C_of_reads (d := 0) ⟨rfl, by omega, fun _ => ⟨_, rfl, fun j hj => ?_⟩⟩
  have ea : ({ block := g, off := 0, spot := none } : Addr).add j = ⟨g, j, none⟩ := by unfold Addr.add; split <;> simp_all
  rw [ea]
  unfold World.cell?
  rw [hg]
  simp [List.getD_eq_getElem?_getD, List.getElem?_eq_getElem hj]
theorem dn_size (w : World) (n : Nat) : (w.drewN n).heap.size = w.heap.size := rfl
theorem al_size (w : World) (o : Obj) : (w.alloc o).heap.size = w.heap.size + 1 := by show (w.heap.push o).size = _; simp
theorem eqi_lit (k : Nat) (A : Option Addr) (c : Nat) (l : List Int) (n g : Nat) (cs : Array Value) (w : World) (hn : l.length = n) (hg : g = w.heap.size) (hcs : cs = (l.map (Value.int .i64)).toArray) (hl : l.length ≤ 100000) (hC : Kd.C (Kd.int .i64) w A l.length l) (hc : l.length ≤ c) (h : PQuantKnown.zoetroperef00_EqInts.f k l l = some true) :
    Calls Try.prog 25 #[.slice A n c, .slice (some ⟨g, 0, none⟩) n n] (w.alloc (.cells cs 3)) fun e w' => e = .returned (.bool true) ∧ Drawn0 (w.alloc (.cells cs 3)) w' := by
  subst hn
  subst hg
  subst hcs
  exact PQuantKnown.zoetroperef00_EqInts.calls k A c l _ l.length l true _ (Kd.C_alloc hC _) hc (lit_C l hl (heap_alloc_new _ _)) (Nat.le_refl _) h
structure T3 where
  a : Int
  b : Int
  c : Int
def zt : T3 := ⟨0, 0, 0⟩
def exs1 : List T3 := [⟨0, 0, 0⟩, ⟨255, 31, 0⟩, ⟨100, (-31), 0⟩, ⟨0, (-31), 0⟩, ⟨256, 0, 0⟩, ⟨0, 32, 0⟩, ⟨(-1), 0, 0⟩, ⟨0, (-32), 0⟩]
def outs1 : List Int := [4, 4, 0, 936, 1613, 0, 122, 172, 0, 4, 4, 0, 0, 0, 2, 0, 0, 2, 0, 0, 2, 0, 0, 2]
theorem outs1_len : outs1.length = 24 := rfl
theorem exs1_ok : ∀ k : Nat, k < 8 → st1 (exs1.getD k zt).a (exs1.getD k zt).b 96 = outs1.getD (3 * k) 0 ∧ st1 (exs1.getD k zt).a (exs1.getD k zt).b 48 = outs1.getD (3 * k + 1) 0 ∧ ste (exs1.getD k zt).a (exs1.getD k zt).b = outs1.getD (3 * k + 2) 0 := by decide +kernel
theorem outs1_take : ∀ k : Nat, k < 8 → outs1.take (3 * k) ++ [outs1.getD (3 * k) 0, outs1.getD (3 * k + 1) 0, outs1.getD (3 * k + 2) 0] = outs1.take (3 * (k + 1)) := by decide +kernel
theorem outs1_eqi : PQuantKnown.zoetroperef00_EqInts.f 25 outs1 outs1 = some true := by decide +kernel
def exC1 : Array Value := #[.int .i64 0, .int .i64 0, .int .i64 255, .int .i64 31, .int .i64 100, .int .i64 (-31), .int .i64 0, .int .i64 (-31), .int .i64 256, .int .i64 0, .int .i64 0, .int .i64 32, .int .i64 (-1), .int .i64 0, .int .i64 0, .int .i64 (-32)]
theorem exC1_at (k : Nat) (hk : k < 8) : exC1[k * 2]? = some (.int .i64 (exs1.getD k zt).a) ∧ exC1[k * 2 + 1]? = some (.int .i64 (exs1.getD k zt).b) := by
  rcases (show k = 0 ∨ k = 1 ∨ k = 2 ∨ k = 3 ∨ k = 4 ∨ k = 5 ∨ k = 6 ∨ k = 7 by omega) with rfl | rfl | rfl | rfl | rfl | rfl | rfl | rfl <;> exact ⟨rfl, rfl⟩
theorem ex1_cells {W : World} {g t : Nat} (h : W.heap[g]? = some (.cells exC1 t (0, 0))) (k : Nat) (hk : k < 8) : W.cell? ⟨g, k * 2, none⟩ = some (.int .i64 (exs1.getD k zt).a) ∧ W.cell? ⟨g, k * 2 + 1, none⟩ = some (.int .i64 (exs1.getD k zt).b) :=
  ⟨(blk_cell h _).trans (exC1_at k hk).1, (blk_cell h _).trans (exC1_at k hk).2⟩
def exs2 : List T3 := [⟨100, 7, 4⟩, ⟨(-100), 7, 8⟩, ⟨3, 7, 16⟩, ⟨100, 7, 32⟩, ⟨100, 7, 64⟩, ⟨1048576, 1, 64⟩, ⟨(-1048576), 1, 32⟩, ⟨1048577, 1, 4⟩, ⟨0, 0, 4⟩, ⟨0, 32769, 4⟩, ⟨0, 1, 5⟩, ⟨0, 1, 128⟩, ⟨(-1048577), 1, 4⟩, ⟨1048576, 32768, 4⟩]
def outs2 : List Int := [14, 0, -14, 0, 0, 0, 29, 0, 57, 0, 1048576, 0, -1048576, 0, 0, 2, 0, 2, 0, 2, 0, 2, 0, 2, 0, 2, 32, 0]
theorem outs2_len : outs2.length = 28 := rfl
theorem exs2_ok : ∀ k : Nat, k < 14 → PQuantKnown.quant_Level.f 9 (exs2.getD k zt).a (exs2.getD k zt).b (exs2.getD k zt).c = some (outs2.getD (2 * k) 0, outs2.getD (2 * k + 1) 0) := by decide +kernel
theorem outs2_take : ∀ k : Nat, k < 14 → outs2.take (2 * k) ++ [outs2.getD (2 * k) 0, outs2.getD (2 * k + 1) 0] = outs2.take (2 * (k + 1)) := by decide +kernel
theorem outs2_eqi : PQuantKnown.zoetroperef00_EqInts.f 29 outs2 outs2 = some true := by decide +kernel
def exC2 : Array Value := #[.int .i64 100, .int .i64 7, .int .i64 4, .int .i64 (-100), .int .i64 7, .int .i64 8, .int .i64 3, .int .i64 7, .int .i64 16, .int .i64 100, .int .i64 7, .int .i64 32, .int .i64 100, .int .i64 7, .int .i64 64, .int .i64 1048576, .int .i64 1, .int .i64 64, .int .i64 (-1048576), .int .i64 1, .int .i64 32, .int .i64 1048577, .int .i64 1, .int .i64 4, .int .i64 0, .int .i64 0, .int .i64 4, .int .i64 0, .int .i64 32769, .int .i64 4, .int .i64 0, .int .i64 1, .int .i64 5, .int .i64 0, .int .i64 1, .int .i64 128, .int .i64 (-1048577), .int .i64 1, .int .i64 4, .int .i64 1048576, .int .i64 32768, .int .i64 4]
theorem exC2_at (k : Nat) (hk : k < 14) : exC2[k * 3]? = some (.int .i64 (exs2.getD k zt).a) ∧ exC2[k * 3 + 1]? = some (.int .i64 (exs2.getD k zt).b) ∧ exC2[k * 3 + 2]? = some (.int .i64 (exs2.getD k zt).c) := by
  rcases (show k = 0 ∨ k = 1 ∨ k = 2 ∨ k = 3 ∨ k = 4 ∨ k = 5 ∨ k = 6 ∨ k = 7 ∨ k = 8 ∨ k = 9 ∨ k = 10 ∨ k = 11 ∨ k = 12 ∨ k = 13 by omega) with rfl | rfl | rfl | rfl | rfl | rfl | rfl | rfl | rfl | rfl | rfl | rfl | rfl | rfl <;> exact ⟨rfl, rfl, rfl⟩
theorem ex2_cells {W : World} {g t : Nat} (h : W.heap[g]? = some (.cells exC2 t (0, 0))) (k : Nat) (hk : k < 14) : W.cell? ⟨g, k * 3, none⟩ = some (.int .i64 (exs2.getD k zt).a) ∧ W.cell? ⟨g, k * 3 + 1, none⟩ = some (.int .i64 (exs2.getD k zt).b) ∧ W.cell? ⟨g, k * 3 + 2, none⟩ = some (.int .i64 (exs2.getD k zt).c) :=
  ⟨(blk_cell h _).trans (exC2_at k hk).1, (blk_cell h _).trans (exC2_at k hk).2.1, (blk_cell h _).trans (exC2_at k hk).2.2⟩
def exs3 : List T3 := [⟨14, 7, 4⟩, ⟨(-14), 7, 8⟩, ⟨29, 7, 32⟩, ⟨57, 7, 64⟩, ⟨1048576, 16, 4⟩, ⟨40000, 1, 4⟩, ⟨(-40000), 1, 16⟩, ⟨1048576, 32768, 64⟩, ⟨1048577, 1, 4⟩, ⟨0, 1, 5⟩, ⟨16777215, 1, 4⟩, ⟨(-65535), 1, 32⟩, ⟨1048576, 15, 64⟩, ⟨1048576, 16, 64⟩, ⟨(-1048576), 16, 32⟩]
def outs3 : List Int := [98, 0, -98, 0, 101, 0, 99, 0, 0, 0, 32767, 0, -32768, 0, 0, 0, 0, 2, 0, 2, 0, 2, -32767, 0, 32767, 0, 0, 0, 0, 0]
theorem outs3_len : outs3.length = 30 := rfl
theorem exs3_ok : ∀ k : Nat, k < 15 → PQuantKnown.quant_Value.f 9 (exs3.getD k zt).a (exs3.getD k zt).b (exs3.getD k zt).c = some (outs3.getD (2 * k) 0, outs3.getD (2 * k + 1) 0) := by decide +kernel
theorem outs3_take : ∀ k : Nat, k < 15 → outs3.take (2 * k) ++ [outs3.getD (2 * k) 0, outs3.getD (2 * k + 1) 0] = outs3.take (2 * (k + 1)) := by decide +kernel
theorem outs3_eqi : PQuantKnown.zoetroperef00_EqInts.f 31 outs3 outs3 = some true := by decide +kernel
def exC3 : Array Value := #[.int .i64 14, .int .i64 7, .int .i64 4, .int .i64 (-14), .int .i64 7, .int .i64 8, .int .i64 29, .int .i64 7, .int .i64 32, .int .i64 57, .int .i64 7, .int .i64 64, .int .i64 1048576, .int .i64 16, .int .i64 4, .int .i64 40000, .int .i64 1, .int .i64 4, .int .i64 (-40000), .int .i64 1, .int .i64 16, .int .i64 1048576, .int .i64 32768, .int .i64 64, .int .i64 1048577, .int .i64 1, .int .i64 4, .int .i64 0, .int .i64 1, .int .i64 5, .int .i64 16777215, .int .i64 1, .int .i64 4, .int .i64 (-65535), .int .i64 1, .int .i64 32, .int .i64 1048576, .int .i64 15, .int .i64 64, .int .i64 1048576, .int .i64 16, .int .i64 64, .int .i64 (-1048576), .int .i64 16, .int .i64 32]
theorem exC3_at (k : Nat) (hk : k < 15) : exC3[k * 3]? = some (.int .i64 (exs3.getD k zt).a) ∧ exC3[k * 3 + 1]? = some (.int .i64 (exs3.getD k zt).b) ∧ exC3[k * 3 + 2]? = some (.int .i64 (exs3.getD k zt).c) := by
  rcases (show k = 0 ∨ k = 1 ∨ k = 2 ∨ k = 3 ∨ k = 4 ∨ k = 5 ∨ k = 6 ∨ k = 7 ∨ k = 8 ∨ k = 9 ∨ k = 10 ∨ k = 11 ∨ k = 12 ∨ k = 13 ∨ k = 14 by omega) with rfl | rfl | rfl | rfl | rfl | rfl | rfl | rfl | rfl | rfl | rfl | rfl | rfl | rfl | rfl <;> exact ⟨rfl, rfl, rfl⟩
theorem ex3_cells {W : World} {g t : Nat} (h : W.heap[g]? = some (.cells exC3 t (0, 0))) (k : Nat) (hk : k < 15) : W.cell? ⟨g, k * 3, none⟩ = some (.int .i64 (exs3.getD k zt).a) ∧ W.cell? ⟨g, k * 3 + 1, none⟩ = some (.int .i64 (exs3.getD k zt).b) ∧ W.cell? ⟨g, k * 3 + 2, none⟩ = some (.int .i64 (exs3.getD k zt).c) :=
  ⟨(blk_cell h _).trans (exC3_at k hk).1, (blk_cell h _).trans (exC3_at k hk).2.1, (blk_cell h _).trans (exC3_at k hk).2.2⟩
theorem hd1 : six 10 1 2 3 4 5 = #[.int .i64 16, .int .i64 16, .int .i64 17, .int .i64 20, .int .i64 20, .int .i64 23] ∧ err 10 1 2 3 4 5 = 0 := ⟨by kernel_rfl, by decide +kernel⟩
theorem hd2 : six 10 0 0 0 0 32 = #[.int .i64 0, .int .i64 0, .int .i64 0, .int .i64 0, .int .i64 0, .int .i64 0] ∧ err 10 0 0 0 0 32 = 2 := ⟨by kernel_rfl, by decide +kernel⟩
theorem hd3 : six 256 0 0 0 0 0 = #[.int .i64 0, .int .i64 0, .int .i64 0, .int .i64 0, .int .i64 0, .int .i64 0] ∧ err 256 0 0 0 0 0 = 2 := ⟨by kernel_rfl, by decide +kernel⟩
theorem ls1 : none5 0 0 0 0 0 0 = true := by decide +kernel
theorem ls2 : none5 10 1 2 3 4 5 = false := by decide +kernel
theorem ls3 : none5 1 0 0 0 0 0 = false := by decide +kernel
theorem ls4 : none5 0 0 0 0 0 1 = false := by decide +kernel
end Go.Proofs.Ytgflgeblimiocaa.Kp
