/- Plain lists of layer 13: what goes into the colours. No program. -/
import Derived.Test.YtnlhciebkcafeaaWMore
namespace Go.Proofs.Ytnlhciebkcafeaa.Cf
open Go.RowKit

/-- Twice the sum of the four samples of place i, in a block of width W. -/
def v2 (xs : List Int) (W i : Nat) : Int := 2 * (xs.getD (i / W * (4 * W) + i % W * 2) 0 + xs.getD (i / W * (4 * W) + i % W * 2 + 1) 0 + xs.getD (i / W * (4 * W) + i % W * 2 + 2 * W) 0 + xs.getD (i / W * (4 * W) + i % W * 2 + 2 * W + 1) 0)
def vs (xs : List Int) (W n : Nat) : List Int := (List.range n).map (v2 xs W)
def tot (xs : List Int) (W H n : Nat) : Int := ((W * H / 2 : Nat) : Int) + (vs xs W n).sum
def mean (xs : List Int) (W H : Nat) : Int := tot xs W H (W * H) / ((W * H : Nat) : Int)
/-- The numbers less their mean. -/
def acs (xs : List Int) (W H : Nat) : List Int := (vs xs W (W * H)).map (· - mean xs W H)
/-- All samples are bytes. -/
def Bytes (xs : List Int) : Prop := ∀ x ∈ xs, 0 ≤ x ∧ x ≤ 255

theorem vs_succ (xs : List Int) (W n : Nat) : vs xs W (n + 1) = vs xs W n ++ [v2 xs W n] := by unfold vs; rw [List.range_succ, List.map_append]; rfl
theorem vs_length (xs : List Int) (W n : Nat) : (vs xs W n).length = n := by simp [vs]
theorem acs_length (xs : List Int) (W H : Nat) : (acs xs W H).length = W * H := by simp [acs, vs]
theorem tot_succ (xs : List Int) (W H n : Nat) : tot xs W H (n + 1) = tot xs W H n + v2 xs W n := by unfold tot; rw [vs_succ, List.sum_append]; simp; omega
theorem getD_byte {xs : List Int} (h : Bytes xs) (j : Nat) : 0 ≤ xs.getD j 0 ∧ xs.getD j 0 ≤ 255 := by
  rw [List.getD_eq_getElem?_getD]
  rcases Nat.lt_or_ge j xs.length with hj | hj
  · rw [List.getElem?_eq_getElem hj]; exact h _ (List.getElem_mem hj)
  · rw [List.getElem?_eq_none hj]; simp
theorem v2_in {xs : List Int} (h : Bytes xs) (W i : Nat) : 0 ≤ v2 xs W i ∧ v2 xs W i ≤ 2040 := by
  unfold v2
  have h0 := getD_byte h (i / W * (4 * W) + i % W * 2)
  have h1 := getD_byte h (i / W * (4 * W) + i % W * 2 + 1)
  have h2 := getD_byte h (i / W * (4 * W) + i % W * 2 + 2 * W)
  have h3 := getD_byte h (i / W * (4 * W) + i % W * 2 + 2 * W + 1)
  omega
theorem tot_in {xs : List Int} (h : Bytes xs) (W H n : Nat) : 0 ≤ tot xs W H n ∧ tot xs W H n ≤ ((W * H / 2 : Nat) : Int) + 2040 * n := by
  induction n with
  | zero =>
    have h0 : tot xs W H 0 = ((W * H / 2 : Nat) : Int) := by unfold tot vs; rw [List.range_zero, List.map_nil, List.sum_nil, Int.add_zero]
    rw [h0]; generalize W * H / 2 = m; omega
  | succ n ih => rw [tot_succ]; have := v2_in h W n; omega
/-- Place x of row y. -/
theorem v2_at (xs : List Int) (W y x : Nat) (hx : x < W) : v2 xs W (W * y + x) = 2 * (xs.getD (4 * W * y + 2 * x) 0 + xs.getD (4 * W * y + 2 * x + 1) 0 + xs.getD (4 * W * y + 2 * W + 2 * x) 0 + xs.getD (4 * W * y + 2 * W + 2 * x + 1) 0) := by
  unfold v2
  have h1 : (W * y + x) / W = y := by rw [Nat.mul_add_div (by omega), Nat.div_eq_of_lt hx]; rfl
  have h2 : (W * y + x) % W = x := by rw [Nat.mul_add_mod, Nat.mod_eq_of_lt hx]
  rw [h1, h2]
  have e1 : y * (4 * W) + x * 2 = 4 * W * y + 2 * x := by rw [Nat.mul_comm y, Nat.mul_comm x]
  rw [e1]
  have e2 : 4 * W * y + 2 * x + 2 * W = 4 * W * y + 2 * W + 2 * x := by omega
  rw [e2]

/-- The first i numbers are less the mean already. -/
def upd (xs : List Int) (W H i : Nat) : List Int := ((vs xs W (W * H)).take i).map (· - mean xs W H) ++ (vs xs W (W * H)).drop i
theorem upd_zero (xs : List Int) (W H : Nat) : upd xs W H 0 = vs xs W (W * H) := by simp [upd]
theorem upd_all (xs : List Int) (W H : Nat) : upd xs W H (W * H) = acs xs W H := by
  unfold upd acs
  rw [List.take_of_length_le (by rw [vs_length]; omega), List.drop_of_length_le (by rw [vs_length]; omega), List.append_nil]
theorem upd_length (xs : List Int) (W H i : Nat) : (upd xs W H i).length = W * H := by
  unfold upd
  simp [vs_length]; omega
theorem vs_get (xs : List Int) (W n i : Nat) (h : i < n) : (vs xs W n)[i]'(by rw [vs_length]; exact h) = v2 xs W i := by simp [vs]
theorem upd_get (xs : List Int) (W H i : Nat) (h : i < W * H) : (upd xs W H i).getD i 0 = v2 xs W i := by
  unfold upd
  rw [List.getD_eq_getElem?_getD, List.getElem?_append_right (by simp; omega)]
  have e : i - (List.map (fun x => x - mean xs W H) (List.take i (vs xs W (W * H)))).length = 0 := by simp [vs_length]; omega
  rw [e, List.getElem?_drop, Nat.add_zero, List.getElem?_eq_getElem (by rw [vs_length]; exact h), vs_get _ _ _ _ h]; rfl
theorem upd_set (xs : List Int) (W H i : Nat) (h : i < W * H) : (upd xs W H i).set i (v2 xs W i - mean xs W H) = upd xs W H (i + 1) := by
  unfold upd
  have hl : (List.map (fun x => x - mean xs W H) (List.take i (vs xs W (W * H)))).length = i := by simp [vs_length]; omega
  have hd : (vs xs W (W * H)).drop i = v2 xs W i :: (vs xs W (W * H)).drop (i + 1) := by
    rw [List.drop_eq_getElem_cons (by rw [vs_length]; exact h), vs_get _ _ _ _ h]
  rw [List.set_append_right _ _ (by omega), hl, Nat.sub_self, hd, List.set_cons_zero, List.take_succ_eq_append_getElem (by rw [vs_length]; exact h), vs_get _ _ _ _ h, List.map_append, List.append_assoc]
  rfl
theorem mean_in {xs : List Int} (h : Bytes xs) (W H : Nat) : 0 ≤ mean xs W H ∧ mean xs W H ≤ ((W * H / 2 : Nat) : Int) + 2040 * (W * H : Nat) := by
  unfold mean
  have := tot_in h W H (W * H)
  refine ⟨Int.ediv_nonneg this.1 (by omega), Int.le_trans (Int.ediv_le_self _ this.1) this.2⟩

end Go.Proofs.Ytnlhciebkcafeaa.Cf
