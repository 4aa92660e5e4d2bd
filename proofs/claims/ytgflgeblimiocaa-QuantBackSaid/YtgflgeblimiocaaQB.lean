/- Plain arithmetic of layer 9, more: a level that comes to a value is found again (for QuantBack). Whole numbers alone, no program. -/
import Derived.Test.YtgflgeblimiocaaQN
namespace Go.Proofs.Ytgflgeblimiocaa.Q
open Go.RowKit Go.Proofs.YtgflgeblimiocaaW.PrintWords Go.Proofs.YtgflgeblimiocaaW.PrintMore

theorem cl_id {v a b : Int} (h0 : a ≤ v) (h1 : v ≤ b) : cl v a b = v := by unfold cl; split <;> (try split) <;> omega
/-- A number is found again out of a product that lies near its own. -/
theorem div_back {n st p : Int} (h : 1 ≤ st) (h0 : n * st - st / 2 ≤ p) (h1 : p ≤ n * st) : (p + st / 2) / st = n := by
  refine Int.le_antisymm (Int.lt_add_one_iff.1 ?_) ?_
  · rw [Int.ediv_lt_iff_lt_mul (by omega), Int.add_mul, Int.one_mul]; omega
  · rw [Int.le_ediv_iff_mul_le (by omega)]; omega
theorem back (L st z : Int) (h2 : 1 ≤ st) (h3 : st ≤ 32768) (hz : sc z = 1 ∨ (0 < sc z ∧ 6 ≤ st)) (hp : ab L * st ≤ 32767) :
    okq L st z = true ∧ okq (vl L st z) st z = true ∧ lv (vl L st z) st z = L := by
  have hn : 0 ≤ ab L := by unfold ab; split <;> omega
  have hm : sc z = 1 ∨ sc z = 2 ∨ sc z = 4 := by rcases sc_cases z with ⟨k, _⟩ | ⟨k, _⟩ | ⟨k, _⟩ | ⟨k, _⟩ <;> omega
  have hp0 : 0 ≤ ab L * st := Int.mul_nonneg hn (by omega)
  have hnp : ab L ≤ ab L * st := by
    have := Int.mul_le_mul_of_nonneg_left h2 hn
    rwa [Int.mul_one] at this
  have hL : -32767 ≤ L ∧ L ≤ 32767 := by unfold ab at *; split at hn <;> rename_i h <;> (first | rw [if_pos h] at hnp hp | rw [if_neg h] at hnp hp) <;> omega
  have hok : okq L st z = true := okq_iff.2 ⟨by omega, by omega, h2, h3, by omega⟩
  have hd : 0 ≤ ab L * st / sc z ∧ ab L * st / sc z ≤ ab L * st := div_le hp0 (by omega)
  have v1 : vl L st z = sg (ab L * st / sc z) L := by
    unfold vl
    rw [Int.emod_eq_of_lt hp0 (by omega), cl_id] <;> unfold sg <;> split <;> omega
  have hab : ab (vl L st z) = ab L * st / sc z := by rw [v1]; exact ab_sg hd.1
  have hv : -32767 ≤ vl L st z ∧ vl L st z ≤ 32767 := by rw [v1]; unfold sg; split <;> omega
  refine ⟨hok, okq_iff.2 ⟨by omega, by omega, h2, h3, by omega⟩, ?_⟩
  have e : (ab (vl L st z) * sc z + st / 2) / st = ab L := by
    rw [hab]
    refine div_back h2 ?_ ?_
    · have h6 : sc z = 1 ∨ 6 ≤ st := by omega
      clear hz hok hab hv v1
      generalize ab L * st = p at *
      rcases hm with k | k | k <;> rw [k] at h6 hd ⊢ <;> omega
    · clear hz hok hab hv v1
      generalize ab L * st = p at *
      rcases hm with k | k | k <;> rw [k] at hd ⊢ <;> omega
  unfold lv mn
  rw [e, if_neg (by unfold ab; split <;> omega)]
  by_cases hL0 : L = 0
  · subst hL0; rw [v1]; have : ab 0 = 0 := rfl
    rw [this, Int.zero_mul, Int.zero_ediv]; unfold sg; split <;> rfl
  have hpos : 0 < ab L := by unfold ab; split <;> omega
  have hq : 0 < ab L * st / sc z := by
    have : st ≤ ab L * st := by
      have := Int.mul_le_mul_of_nonneg_right (show 1 ≤ ab L by omega) (show 0 ≤ st by omega)
      rwa [Int.one_mul] at this
    have h6 : sc z = 1 ∨ 6 ≤ st := by omega
    clear hz hok hab hv v1 e hnp
    generalize ab L * st = p at *
    rcases hm with k | k | k <;> rw [k] at h6 hd ⊢ <;> omega
  rw [v1]
  generalize ab L * st / sc z = p at hq
  clear hz hok hab hv v1 e hnp hd hp hp0 hL hpos hn
  unfold sg ab
  by_cases h : L < 0
  · rw [if_pos h, if_pos h, if_pos (by omega)]; omega
  · rw [if_neg h, if_neg h, if_neg (by omega)]
theorem most_le {q r st : Int} (h : 1 ≤ st) (hq : q = 32767 / st) (h0 : 0 ≤ r) (h1 : r ≤ 2 * q) : ab (r - q) * st ≤ 32767 := by
  have hq1 : q * st ≤ 32767 := by rw [hq]; exact Int.ediv_mul_le _ (by omega)
  have : ab (r - q) ≤ q := by unfold ab; split <;> omega
  exact Int.le_trans (Int.mul_le_mul_of_nonneg_right this (by omega)) hq1

end Go.Proofs.Ytgflgeblimiocaa.Q
