/- Plain: partitions, trees. No program. -/
import Derived.Test.YtjobfnicnoffmaaPPartTreesx0
namespace Go.Proofs.Ytjobfnicnoffmaa.Pt
open Go.RowKit Go.Proofs.Ytjobfnicnoffmaa.PPartTrees

/-- How many partitions a size has. -/
def typesN (w : Int) : Int := if w = 64 then 10 else if w = 32 then 10 else if w = 16 then 8 else if w = 8 then 1 else 0
def typesE (w : Int) : Int := if typesN w = 0 then 2 else 0
def eightsB (n a b : Int) : Bool := decide (n % 8 = 0) && (decide (a ≤ n) && decide (n ≤ b))
def regB (r : S23) : Bool := decide (typesN r.f2 ≠ 0) && (decide (r.f2 = r.f3) && (eightsB r.f0 0 2048 && eightsB r.f1 0 2048))
/-- A part, in quarters of a side. -/
structure Q4 where
  a : Int
  b : Int
  c : Int
  d : Int
def zq : Q4 := ⟨0, 0, 0, 0⟩
def quads (kind : Int) : List Q4 :=
  if kind = 1 then [⟨0, 0, 4, 2⟩, ⟨0, 2, 4, 2⟩]
  else if kind = 2 then [⟨0, 0, 2, 4⟩, ⟨2, 0, 2, 4⟩]
  else if kind = 3 then [⟨0, 0, 2, 2⟩, ⟨2, 0, 2, 2⟩, ⟨0, 2, 2, 2⟩, ⟨2, 2, 2, 2⟩]
  else if kind = 4 then [⟨0, 0, 2, 2⟩, ⟨2, 0, 2, 2⟩, ⟨0, 2, 4, 2⟩]
  else if kind = 5 then [⟨0, 0, 4, 2⟩, ⟨0, 2, 2, 2⟩, ⟨2, 2, 2, 2⟩]
  else if kind = 6 then [⟨0, 0, 2, 2⟩, ⟨0, 2, 2, 2⟩, ⟨2, 0, 2, 4⟩]
  else if kind = 7 then [⟨0, 0, 2, 4⟩, ⟨2, 0, 2, 2⟩, ⟨2, 2, 2, 2⟩]
  else if kind = 8 then [⟨0, 0, 4, 1⟩, ⟨0, 1, 4, 1⟩, ⟨0, 2, 4, 1⟩, ⟨0, 3, 4, 1⟩]
  else [⟨0, 0, 1, 4⟩, ⟨1, 0, 1, 4⟩, ⟨2, 0, 1, 4⟩, ⟨3, 0, 1, 4⟩]
def piece (r : S23) (q : Q4) : S23 := ⟨r.f0 + q.a * (r.f2 / 4), r.f1 + q.b * (r.f2 / 4), q.c * (r.f2 / 4), q.d * (r.f2 / 4)⟩
def cutsL (r : S23) (kind : Int) : List S23 := if kind = 0 then [r] else (quads kind).map (piece r)
def cutOk (r : S23) (kind : Int) : Bool := regB r && (decide (0 ≤ kind) && decide (kind < typesN r.f2))
def cutAns (r : S23) (kind : Int) : List S23 := if cutOk r kind = true then cutsL r kind else []
def cutErr (r : S23) (kind : Int) : Int := if cutOk r kind = true then 0 else 2

/-- Has a region no place in an area; does it lie in it? -/
def apartB (r a : S23) : Bool := decide (r.f0 ≥ a.f0 + a.f2) || (decide (a.f0 ≥ r.f0 + r.f2) || (decide (r.f1 ≥ a.f1 + a.f3) || decide (a.f1 ≥ r.f1 + r.f3)))
def insideB (r a : S23) : Bool := decide (r.f0 ≥ a.f0) && (decide (r.f1 ≥ a.f1) && (decide (r.f0 + r.f2 ≤ a.f0 + a.f2) && decide (r.f1 + r.f3 ≤ a.f1 + a.f3)))
/-- The next choice, of n. -/
def nextK (n : Int) (l : List Int) : Int := if l = [] then 0 else l.headD 0 % n
def foldQ (f : S23 → List Int → List S23 × List Int) : List S23 → List Int → List S23 × List Int
  | [], l => ([], l)
  | q :: qs, l => ((f q l).1 ++ (foldQ f qs (f q l).2).1, (foldQ f qs (f q l).2).2)
theorem foldQ_snoc (f : S23 → List Int → List S23 × List Int) (qs : List S23) (q : S23) (l : List Int) : foldQ f (qs ++ [q]) l = ((foldQ f qs l).1 ++ (f q (foldQ f qs l).2).1, (f q (foldQ f qs l).2).2) := by
  induction qs generalizing l with
  | nil => simp [foldQ]
  | cons p qs ih => simp only [List.cons_append, foldQ, ih, List.append_assoc]
/-- The leaves of the tree of a region whose side is 8 times 2^k, and the choices that are left. -/
def treeF : Nat → S23 → S23 → List Int → List S23 × List Int
  | 0, a, r, l => if apartB r a = true then ([], l) else if insideB r a = true then ([r], l) else ([], l)
  | k + 1, a, r, l =>
    if apartB r a = true then ([], l)
    else if insideB r a = true then
      if nextK (typesN r.f2) l = 3 then foldQ (treeF k a) (cutsL r 3) l.tail else (cutsL r (nextK (typesN r.f2) l), l.tail)
    else foldQ (treeF k a) (cutsL r 3) l

/-- May Blocks be asked? -/
def areaB (a : S23) : Bool := eightsB a.f0 0 1024 && (eightsB a.f1 0 1024 && (eightsB a.f2 8 1024 && eightsB a.f3 8 1024))
def blkOk (r a : S23) : Bool := regB r && (decide (r.f2 = 64) && (decide (r.f0 ≤ 1024) && (decide (r.f1 ≤ 1024) && areaB a)))
def blkAns (r a : S23) (l : List Int) : List S23 := if blkOk r a = true then (treeF 3 a r l).1 else []
def blkUsed (r a : S23) (l : List Int) : Int := if blkOk r a = true then (l.length : Int) - ((treeF 3 a r l).2.length : Int) else 0
def blkErr (r a : S23) : Int := if blkOk r a = true then 0 else 2

theorem regB_iff {r : S23} : regB r = true ↔ (r.f2 = 8 ∨ r.f2 = 16 ∨ r.f2 = 32 ∨ r.f2 = 64) ∧ r.f2 = r.f3 ∧ (r.f0 % 8 = 0 ∧ 0 ≤ r.f0 ∧ r.f0 ≤ 2048) ∧ (r.f1 % 8 = 0 ∧ 0 ≤ r.f1 ∧ r.f1 ≤ 2048) := by
  unfold regB eightsB typesN
  simp only [Bool.and_eq_true, decide_eq_true_eq]
  constructor
  · rintro ⟨h1, h2, ⟨h3, h4⟩, h5, h6⟩
    refine ⟨?_, h2, ⟨h3, h4⟩, h5, h6⟩
    by_cases a : r.f2 = 64
    · omega
    · rw [if_neg a] at h1
      by_cases b : r.f2 = 32
      · omega
      · rw [if_neg b] at h1
        by_cases c : r.f2 = 16
        · omega
        · rw [if_neg c] at h1
          by_cases d : r.f2 = 8
          · omega
          · rw [if_neg d] at h1; omega
  · rintro ⟨h1, h2, ⟨h3, h4⟩, h5, h6⟩
    refine ⟨?_, h2, ⟨h3, h4⟩, h5, h6⟩
    rcases h1 with h | h | h | h <;> rw [h] <;> decide
/-- The side of a level. -/
def sideOf : Nat → Int
  | 0 => 8
  | k + 1 => 2 * sideOf k
def IsReg (k : Nat) (r : S23) : Prop := r.f2 = sideOf k ∧ r.f3 = sideOf k ∧ (r.f0 % 8 = 0 ∧ 0 ≤ r.f0 ∧ r.f0 + sideOf k ≤ 2048) ∧ (r.f1 % 8 = 0 ∧ 0 ≤ r.f1 ∧ r.f1 + sideOf k ≤ 2048)
theorem side_pos (k : Nat) : 8 ≤ sideOf k ∧ sideOf k % 8 = 0 := by
  induction k with
  | zero => exact ⟨by decide, by decide⟩
  | succ k ih => unfold sideOf; omega
theorem IsReg.regB {k : Nat} {r : S23} (hk : k ≤ 3) (h : IsReg k r) : regB r = true := by
  obtain ⟨h1, h2, h3, h4⟩ := h
  have hp := side_pos k
  rw [regB_iff]
  refine ⟨?_, by rw [h1, h2], ⟨h3.1, h3.2.1, by omega⟩, h4.1, h4.2.1, by omega⟩
  rw [h1]
  rcases (show k = 0 ∨ k = 1 ∨ k = 2 ∨ k = 3 by omega) with rfl | rfl | rfl | rfl <;> decide
theorem types_zero : typesN (sideOf 0) = 1 := by decide
theorem types_succ {k : Nat} (hk : k + 1 ≤ 3) : typesN (sideOf (k + 1)) = 8 ∨ typesN (sideOf (k + 1)) = 10 := by
  rcases (show k = 0 ∨ k = 1 ∨ k = 2 by omega) with rfl | rfl | rfl <;> decide
theorem quarters_reg {k : Nat} {r : S23} (h : IsReg (k + 1) r) : ∀ q ∈ cutsL r 3, IsReg k q := by
  obtain ⟨h1, h2, h3, h4⟩ := h
  have hp := side_pos k
  have hs : sideOf (k + 1) = 2 * sideOf k := rfl
  rw [hs] at h1 h2 h3 h4
  have e : r.f2 / 4 * 2 = sideOf k := by omega
  intro q hq
  have hq' : q ∈ [piece r ⟨0, 0, 2, 2⟩, piece r ⟨2, 0, 2, 2⟩, piece r ⟨0, 2, 2, 2⟩, piece r ⟨2, 2, 2, 2⟩] := hq
  simp only [List.mem_cons, List.not_mem_nil, or_false] at hq'
  rcases hq' with rfl | rfl | rfl | rfl <;> (unfold IsReg piece; dsimp only; omega)
theorem cut3_length (r : S23) : (cutsL r 3).length = 4 := rfl
theorem cutOk_of {k : Nat} {r : S23} (hk : k + 1 ≤ 3) (h : IsReg (k + 1) r) (kind : Int) (h0 : 0 ≤ kind) (h1 : kind < typesN r.f2) : cutOk r kind = true := by
  unfold cutOk
  rw [h.regB hk, decide_eq_true h0, decide_eq_true h1]; rfl
end Go.Proofs.Ytjobfnicnoffmaa.Pt
