/- What brought comes to: a region of 64 and an area, of any numbers. -/
import Derived.Test.YtjobfnicnoffmaaPPartTilesx3
import Derived.Test.YtjobfnicnoffmaaWk
import Derived.Test.YtjobfnicnoffmaaPu
namespace Go.Proofs.Ytjobfnicnoffmaa.Br
open Go.RowKit Go.Proofs.Ytjobfnicnoffmaa.PPartTrees Go.Proofs.YtjobfnicnoffmaaW.PrintWords Go.Proofs.YtjobfnicnoffmaaW.PrintLast Go.Proofs.YtjobfnicnoffmaaW.PrintMore Go.Proofs.Ytjobfnicnoffmaa.Pt Go.Proofs.Ytjobfnicnoffmaa.Ph

theorem bring_plain (a n : Int) (hn : 0 < n) (hn' : n ≤ 100000) : (if a ≤ a - 1 then a else if Int.tmod a n < 0 then wrap64 (Int.tmod a n + n) else Int.tmod a n) = a % n := by
  rw [if_neg (by omega)]
  have h0 := Int.emod_nonneg a (show n ≠ 0 by omega)
  have h1 := Int.emod_lt_of_pos a hn
  have ht : Int.tmod a n = if 0 ≤ a ∨ n ∣ a then a % n else a % n - n := by
    rw [Int.tmod_eq_emod]; split <;> omega
  rw [ht]
  clear ht
  by_cases hc : 0 ≤ a ∨ n ∣ a
  · rw [if_pos hc, if_neg (by omega)]
  · rw [if_neg hc, if_pos (by omega)]
    have e : a % n - n + n = a % n := by omega
    rw [e]
    unfold wrap64; omega
theorem bring_eq (a n : Int) (hn : 0 < n) (hn' : n ≤ 100000) : PPartTrees.zoetroperef00_Bring.f a n = some (a % n) := by
  have h := bring_plain a n hn hn'
  rw [if_neg (by omega)] at h
  unfold PPartTrees.zoetroperef00_Bring.f
  rw [if_neg (by omega), if_neg (by omega), ← h]
  split <;> rfl
theorem bring_eq' (a n : Int) (hn : 0 < n) (hn' : n ≤ 100000) : PPartTiles.zoetroperef00_Bring.f a n = some (a % n) := by
  have h := bring_plain a n hn hn'
  rw [if_neg (by omega)] at h
  unfold PPartTiles.zoetroperef00_Bring.f
  rw [if_neg (by omega), if_neg (by omega), ← h]
  split <;> rfl
theorem bring_any (a n : Int) (w : World) (hn : 0 < n) (hn' : n ≤ 100000) : Calls Try.prog 12 #[.int .i64 a, .int .i64 n] w fun e w' => e = .returned (.int .i64 (a % n)) ∧ Drawn0 w w' := PPartTrees.zoetroperef00_Bring.calls a n _ w (bring_eq a n hn hn')
/-- The region, the area. -/
def brR (r : S23) : S23 := ⟨8 * (r.f0 % 129), 8 * (r.f1 % 129), 64, 64⟩
def brA (a : S23) : S23 := ⟨8 * (a.f0 % 129), 8 * (a.f1 % 129), 8 + 8 * (a.f2 % 128), 8 + 8 * (a.f3 % 128)⟩
theorem brought_eq (r a : S23) : PPartTiles.zoetropelaw16_brought.f r.f0 r.f1 r.f2 r.f3 a.f0 a.f1 a.f2 a.f3 = some ((brR r).f0, (brR r).f1, (brR r).f2, (brR r).f3, (brA a).f0, (brA a).f1, (brA a).f2, (brA a).f3) := by
  unfold PPartTiles.zoetropelaw16_brought.f brR brA PPartTiles.zoetropelaw16_rect.f
  have m0 : 0 ≤ r.f0 % 129 ∧ r.f0 % 129 < 129 := by omega
  have m1 : 0 ≤ r.f1 % 129 ∧ r.f1 % 129 < 129 := by omega
  have m2 : 0 ≤ a.f0 % 129 ∧ a.f0 % 129 < 129 := by omega
  have m3 : 0 ≤ a.f1 % 129 ∧ a.f1 % 129 < 129 := by omega
  have m4 : 0 ≤ a.f2 % 128 ∧ a.f2 % 128 < 128 := by omega
  have m5 : 0 ≤ a.f3 % 128 ∧ a.f3 % 128 < 128 := by omega
  rw [bring_eq' r.f0 129 (by omega) (by omega), bring_eq' r.f1 129 (by omega) (by omega), bring_eq' a.f0 129 (by omega) (by omega), bring_eq' a.f1 129 (by omega) (by omega), bring_eq' a.f2 128 (by omega) (by omega), bring_eq' a.f3 128 (by omega) (by omega)]
  simp only [Option.bind_some]
  generalize r.f0 % 129 = x0 at *
  generalize r.f1 % 129 = x1 at *
  generalize a.f0 % 129 = x2 at *
  generalize a.f1 % 129 = x3 at *
  generalize a.f2 % 128 = x4 at *
  generalize a.f3 % 128 = x5 at *
  rw [w64 (n := 8 * x0) (by omega) (by omega), w64 (n := 8 * x1) (by omega) (by omega), w64 (n := 8 * x2) (by omega) (by omega), w64 (n := 8 * x3) (by omega) (by omega), w64 (n := 8 * x4) (by omega) (by omega), w64 (n := 8 * x5) (by omega) (by omega), w64 (n := 8 + 8 * x4) (by omega) (by omega), w64 (n := 8 + 8 * x5) (by omega) (by omega)]
theorem brought_any (r a : S23) (w : World) : Calls Try.prog 10 #[aggS r, aggS a] w fun e w' => e = .returned (.tuple #[aggS (brR r), aggS (brA a)]) ∧ Below w.heap.size w w' :=
  PPartTiles.zoetropelaw16_brought.calls _ _ _ _ _ _ _ _ _ _ _ _ _ _ _ _ w (brought_eq r a)
theorem br_ok (r a : S23) : blkOk (brR r) (brA a) = true := by
  unfold blkOk areaB eightsB
  have h : regB (brR r) = true := by
    rw [regB_iff]
    unfold brR
    dsimp only
    omega
  rw [h]
  unfold brR brA
  simp only [Bool.true_and, Bool.and_eq_true, decide_eq_true_eq]
  refine ⟨trivial, ?_⟩
  omega
theorem br_reg (r : S23) : IsReg 3 (brR r) := by
  have e : sideOf 3 = 64 := rfl
  unfold IsReg
  rw [e]
  unfold brR
  dsimp only
  omega
theorem br_fits (r a : S23) : Bk.Fits (brR r) ∧ Bk.Fits (brA a) := by
  unfold Bk.Fits brR brA
  dsimp only
  omega
end Go.Proofs.Ytjobfnicnoffmaa.Br
