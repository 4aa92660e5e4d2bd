/- Plain: what a prediction is. No program. -/
import Derived.Test.YtnlhciebkcafeaaCf
namespace Go.Proofs.Ytnlhciebkcafeaa.Pd
open Go.RowKit Go.Proofs.Ytnlhciebkcafeaa.Cf

/-- What a number brings, by alpha (their product is p). -/
def ptn (p : Int) : Int := if p < 0 then -((32 - p) / 64) else (p + 32) / 64
/-- A sample of the prediction. -/
def pv (bs xs : List Int) (al : Int) (j : Nat) : Int := min (max (bs.getD j 0 + ptn (al * xs.getD j 0)) 0) 255
def prs (bs xs : List Int) (al : Int) (n : Nat) : List Int := (List.range n).map (pv bs xs al)
/-- The first i are filled in. -/
def fil (bs xs : List Int) (al : Int) (n i : Nat) : List Int := (List.range n).map fun j => if j < i then pv bs xs al j else 0
def In (x : Int) : Prop := -2048 ≤ x ∧ x ≤ 2048
def prOk (bs xs : List Int) (al : Int) : Bool := decide (bs.length ≤ 1024) && (decide (xs.length = bs.length) && (xs.all (fun x => decide (-2048 ≤ x ∧ x ≤ 2048)) && decide (-16 ≤ al ∧ al ≤ 16)))
def prAns (bs xs : List Int) (al : Int) : List Int := if prOk bs xs al = true then prs bs xs al bs.length else []
def prErr (bs xs : List Int) (al : Int) : Int := if prOk bs xs al = true then 0 else 2

theorem prOk_iff {bs xs : List Int} {al : Int} : prOk bs xs al = true ↔ bs.length ≤ 1024 ∧ xs.length = bs.length ∧ (∀ x ∈ xs, In x) ∧ -16 ≤ al ∧ al ≤ 16 := by
  unfold prOk In; simp [List.all_eq_true]
theorem prs_length (bs xs : List Int) (al : Int) (n : Nat) : (prs bs xs al n).length = n := by simp [prs]
theorem fil_length (bs xs : List Int) (al : Int) (n i : Nat) : (fil bs xs al n i).length = n := by simp [fil]
theorem fil_zero (bs xs : List Int) (al : Int) (n : Nat) : fil bs xs al n 0 = List.replicate n 0 := by
  unfold fil; apply List.ext_getElem <;> simp
theorem fil_all (bs xs : List Int) (al : Int) (n : Nat) : fil bs xs al n n = prs bs xs al n := by
  unfold fil prs; apply List.map_congr_left; intro j hj; rw [if_pos (List.mem_range.1 hj)]
theorem fil_set (bs xs : List Int) (al : Int) (n i : Nat) : (fil bs xs al n i).set i (pv bs xs al i) = fil bs xs al n (i + 1) := by
  unfold fil
  apply List.ext_getElem
  · simp
  · intro j h1 h2
    rw [List.getElem_set]
    simp only [List.getElem_map, List.getElem_range]
    by_cases hij : i = j
    · subst hij; rw [if_pos rfl, if_pos (by omega)]
    · rw [if_neg hij]
      by_cases hj : j < i
      · rw [if_pos hj, if_pos (by omega)]
      · rw [if_neg hj, if_neg (by omega)]
theorem pv_in (bs xs : List Int) (al : Int) (j : Nat) : 0 ≤ pv bs xs al j ∧ pv bs xs al j ≤ 255 := by unfold pv; omega
theorem prs_succ (bs xs : List Int) (al : Int) (n : Nat) : prs bs xs al (n + 1) = prs bs xs al n ++ [pv bs xs al n] := by unfold prs; rw [List.range_succ, List.map_append]; rfl
theorem getD_in {xs : List Int} (h : ∀ x ∈ xs, In x) (j : Nat) : -2048 ≤ xs.getD j 0 ∧ xs.getD j 0 ≤ 2048 := by
  rw [List.getD_eq_getElem?_getD]
  rcases Nat.lt_or_ge j xs.length with hj | hj
  · rw [List.getElem?_eq_getElem hj]; exact h _ (List.getElem_mem hj)
  · rw [List.getElem?_eq_none hj]; simp
theorem mul_in {a v : Int} (a0 : -16 ≤ a) (a1 : a ≤ 16) (v0 : -2048 ≤ v) (v1 : v ≤ 2048) : -32768 ≤ a * v ∧ a * v ≤ 32768 := by
  have p1 : 0 ≤ (a + 16) * (v + 2048) := Int.mul_nonneg (by omega) (by omega)
  have p2 : 0 ≤ (16 - a) * (2048 - v) := Int.mul_nonneg (by omega) (by omega)
  have p3 : 0 ≤ (a + 16) * (2048 - v) := Int.mul_nonneg (by omega) (by omega)
  have p4 : 0 ≤ (16 - a) * (v + 2048) := Int.mul_nonneg (by omega) (by omega)
  simp only [Int.add_mul, Int.mul_add, Int.sub_mul, Int.mul_sub] at p1 p2 p3 p4
  omega
theorem ptn_in {p : Int} (h0 : -32768 ≤ p) (h1 : p ≤ 32768) : -600 ≤ ptn p ∧ ptn p ≤ 600 := by unfold ptn; split <;> omega
end Go.Proofs.Ytnlhciebkcafeaa.Pd
