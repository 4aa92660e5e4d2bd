/- Plain arithmetic of layer 9, more: what is rounded stays near (for QuantNear), and 'Bring'. Whole numbers alone, no program. -/
import Derived.Test.YtgflgeblimiocaaQ
namespace Go.Proofs.Ytgflgeblimiocaa.Q
open Go.RowKit Go.Proofs.YtgflgeblimiocaaW.PrintWords Go.Proofs.YtgflgeblimiocaaW.PrintMore

theorem tmod_up {a b : Int} (h : 0 < b) : (if a.tmod b < 0 then a.tmod b + b else a.tmod b) = a % b := by
  have h1 := Int.emod_nonneg a (show b ≠ 0 by omega)
  have h2 := Int.emod_lt_of_pos a h
  rw [Int.tmod_eq_emod]
  split <;> split <;> omega

/-- 'Bring' as it is printed. -/
theorem bring_code (a n : Int) (h0 : 0 < n) (h1 : n ≤ 4611686018427387904) :
    (if n ≤ 0 then (some 0) else (if n = 0 then (none) else (if (Int.tmod a n) < 0 then (some (wrap64 ((Int.tmod a n) + n))) else (some (Int.tmod a n))))) = some (a % n) := by
  have h2 := Int.emod_nonneg a (show n ≠ 0 by omega)
  have h3 := Int.emod_lt_of_pos a h0
  have h4 := tmod_up (a := a) h0
  rw [if_neg (by omega), if_neg (by omega)]
  split
  · rename_i h; rw [if_pos h] at h4; rw [h4, w64 (by omega) (by omega)]
  · rename_i h; rw [if_neg h] at h4; rw [h4]

/-- The level's product with its step lies within half a step. -/
theorem lv_near {A st : Int} (h : 1 ≤ st) : (A + st / 2) / st * st ≤ A + st / 2 ∧ A - st / 2 ≤ (A + st / 2) / st * st := by
  have h1 := Int.ediv_mul_le (A + st / 2) (show st ≠ 0 by omega)
  have h2 := Int.lt_ediv_add_one_mul_self (A + st / 2) (show 0 < st by omega)
  rw [Int.add_mul, Int.one_mul] at h2
  omega

theorem ab_sg {n c : Int} (h : 0 ≤ n) : ab (sg n c) = n := by unfold ab sg; split <;> split <;> omega
theorem ab_neg (c : Int) : ab (-c) = ab c := by unfold ab; split <;> split <;> omega


theorem lin_back {m c p n : Int} (hm : m = 1 ∨ m = 2 ∨ m = 4) (hp : 0 ≤ p) (hp' : p ≤ 1000000) (hn : 0 ≤ n) (hn0 : n = 0 → p = 0) :
    ab (cl (sg (p / m) (sg n c)) (-32768) 32767) < 32767 → cl (sg (p / m) (-(sg n c))) (-32768) 32767 = -(cl (sg (p / m) (sg n c)) (-32768) 32767) := by
  intro h
  have h0 : n = 0 → p / m = 0 := fun e => by rw [hn0 e]; simp
  have h1 : 0 ≤ p / m := by rcases hm with rfl | rfl | rfl <;> omega
  generalize p / m = q at *
  clear hp hp' hn0 hm
  unfold cl sg ab at *
  by_cases hc : c < 0
  · simp only [if_pos hc] at *
    by_cases hq : n = 0
    · have := h0 hq; subst this; subst hq; simp
    · rw [if_pos (show -n < 0 by omega), if_neg (show ¬ (- -n < 0) by omega)] at *
      (repeat' split) <;> (repeat' split at h) <;> omega
  · simp only [if_neg hc] at *
    rw [if_neg (show ¬ n < 0 by omega)] at *
    by_cases hq : n = 0
    · have := h0 hq; subst this; subst hq; simp
    · rw [if_pos (show -n < 0 by omega)] at *
      (repeat' split) <;> (repeat' split at h) <;> omega
/-- The value's sign is the coefficient's, or it is nothing. -/
theorem sg_sg {q n c : Int} (hn : 0 ≤ n) (h0 : n = 0 → q = 0) : sg q (sg n c) = sg q c := by
  unfold sg
  by_cases hc : c < 0
  · rw [if_pos hc, if_pos hc]
    by_cases hq : n = 0
    · rw [h0 hq]; split <;> rfl
    · rw [if_pos (by omega)]
  · rw [if_neg hc, if_neg hc, if_neg (by omega)]
theorem lin_near {m c p st : Int} (hm : m = 1 ∨ m = 2 ∨ m = 4) (h0 : -32768 ≤ c) (h1 : c ≤ 32767) (hp : 0 ≤ p) (hu : p ≤ ab c * m + st / 2) (hl : ab c * m - st / 2 ≤ p) :
    ab (cl (sg (p / m) c) (-32768) 32767 - c) * m ≤ st / 2 + m := by
  have ha := ab_le (n := c) (B := 32768) h0 (by omega)
  have hd : p / m * m ≤ p ∧ p ≤ p / m * m + m - 1 ∧ 0 ≤ p / m := by rcases hm with rfl | rfl | rfl <;> omega
  have key : ab (cl (sg (p / m) c) (-32768) 32767 - c) ≤ ab (p / m - ab c) := by
    generalize p / m = q at *
    clear hu hl hp hm
    unfold cl sg ab at *
    by_cases hc : c < 0
    · simp only [if_pos hc] at *; (repeat' split) <;> omega
    · simp only [if_neg hc] at *; (repeat' split) <;> omega
  have key2 : ab (p / m - ab c) * m ≤ st / 2 + m := by
    generalize p / m = q at *
    generalize ab c = a at *
    unfold ab
    rcases hm with rfl | rfl | rfl <;> split <;> omega
  refine Int.le_trans (Int.mul_le_mul_of_nonneg_right key ?_) key2
  rcases hm with rfl | rfl | rfl <;> decide
theorem lin_sign {q c : Int} (hq : 0 ≤ q) : cl (sg q c) (-32768) 32767 = 0 ∨ (decide (c < 0) == decide (cl (sg q c) (-32768) 32767 < 0)) = true := by
  by_cases hv : cl (sg q c) (-32768) 32767 = 0
  · exact .inl hv
  · refine .inr ?_
    have : (c < 0) ↔ (cl (sg q c) (-32768) 32767 < 0) := by
      unfold cl sg at *
      by_cases hc : c < 0
      · simp only [if_pos hc] at *; (repeat' split) <;> (repeat' split at hv) <;> omega
      · simp only [if_neg hc] at *; (repeat' split) <;> (repeat' split at hv) <;> omega
    rw [beq_iff_eq, decide_eq_decide]; exact this
theorem near (c st z : Int) (h0 : -32768 ≤ c) (h1 : c ≤ 32767) (h2 : 1 ≤ st) (h3 : st ≤ 32768) (hz : 0 < sc z) :
    okq c st z = true ∧ okq (-c) st z = true ∧ okq (lv c st z) st z = true ∧ okq (-(lv c st z)) st z = true ∧ lv (-c) st z = -(lv c st z) ∧
    -1048576 ≤ lv c st z ∧ lv c st z ≤ 1048576 ∧ (ab (vl (lv c st z) st z) < 32767 → vl (-(lv c st z)) st z = -(vl (lv c st z) st z)) ∧
    ab (vl (lv c st z) st z - c) * sc z ≤ st / 2 + sc z ∧ -32768 ≤ vl (lv c st z) st z ∧ vl (lv c st z) st z ≤ 32767 ∧
    (vl (lv c st z) st z = 0 ∨ (decide (c < 0) == decide (vl (lv c st z) st z < 0)) = true) := by
  have ha := ab_le (n := c) (B := 32768) h0 (by omega)
  have hA : 0 ≤ ab c * sc z ∧ ab c * sc z ≤ 131072 := by
    rcases sc_cases z with ⟨k, _⟩ | ⟨k, _⟩ | ⟨k, _⟩ | ⟨k, _⟩ <;> rw [k] <;> omega
  have hn := lv_near (A := ab c * sc z) h2
  have hd := div_le (a := ab c * sc z + st / 2) (b := st) (by omega) h2
  have e1 : lv c st z = sg ((ab c * sc z + st / 2) / st) c := by unfold lv mn; rw [if_neg (by omega)]
  have e2 : lv (-c) st z = sg ((ab c * sc z + st / 2) / st) (-c) := by unfold lv mn; rw [ab_neg, if_neg (by omega)]
  have hok : okq c st z = true := okq_iff.2 ⟨by omega, by omega, h2, h3, hz⟩
  have hok' : okq (-c) st z = true := okq_iff.2 ⟨by omega, by omega, h2, h3, hz⟩
  generalize hq : (ab c * sc z + st / 2) / st = n at *
  have hl : -1048576 ≤ lv c st z ∧ lv c st z ≤ 1048576 := by rw [e1]; unfold sg; split <;> omega
  have hok2 : okq (lv c st z) st z = true := okq_iff.2 ⟨hl.1, hl.2, h2, h3, hz⟩
  have hok3 : okq (-(lv c st z)) st z = true := okq_iff.2 ⟨by omega, by omega, h2, h3, hz⟩
  have hab : ab (lv c st z) = n := by rw [e1]; exact ab_sg hd.1
  have hm : sc z = 1 ∨ sc z = 2 ∨ sc z = 4 := by rcases sc_cases z with ⟨k, _⟩ | ⟨k, _⟩ | ⟨k, _⟩ | ⟨k, _⟩ <;> omega
  have hp0 : 0 ≤ n * st := Int.mul_nonneg hd.1 (by omega)
  have v1 : vl (lv c st z) st z = cl (sg (n * st / sc z) (lv c st z)) (-32768) 32767 := by unfold vl; rw [hab, Int.emod_eq_of_lt hp0 (by omega)]
  have v2 : vl (-(lv c st z)) st z = cl (sg (n * st / sc z) (-(lv c st z))) (-32768) 32767 := by unfold vl; rw [ab_neg, hab, Int.emod_eq_of_lt hp0 (by omega)]
  have hn0 : n = 0 → n * st = 0 := fun h => by rw [h]; simp
  have hneg : lv (-c) st z = -(lv c st z) := by
    have hc0 : c = 0 → n = 0 := by
      intro h
      rw [← hq, h]
      have : ab 0 = 0 := rfl
      rw [this, Int.zero_mul, Int.zero_add]
      exact Int.ediv_eq_zero_of_lt (by omega) (by omega)
    rw [e1, e2]; unfold sg; split <;> split <;> omega
  have hs : sg (n * st / sc z) (sg n c) = sg (n * st / sc z) c := sg_sg hd.1 fun h => by rw [hn0 h]; simp
  have hq0 : 0 ≤ n * st / sc z := Int.ediv_nonneg hp0 (by omega)
  refine ⟨hok, hok', hok2, hok3, hneg, hl.1, hl.2, ?_, ?_, ?_, ?_, ?_⟩
  all_goals rw [v1]
  · rw [v2, e1]
    exact lin_back hm hp0 (by omega) hd.1 hn0
  · rw [e1, hs]; exact lin_near hm h0 h1 hp0 hn.1 hn.2
  · unfold cl; (repeat' split) <;> omega
  · unfold cl; (repeat' split) <;> omega
  · rw [e1, hs]; exact lin_sign hq0

end Go.Proofs.Ytgflgeblimiocaa.Q
