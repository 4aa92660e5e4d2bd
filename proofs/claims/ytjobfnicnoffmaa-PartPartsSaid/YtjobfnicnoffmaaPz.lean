/- Plain: each place of a region is in one of its parts, each place of square and area in one leaf. No program. -/
import Derived.Test.YtjobfnicnoffmaaCv
import Derived.Test.YtjobfnicnoffmaaRx
namespace Go.Proofs.Ytjobfnicnoffmaa.Pz
open Go.RowKit Go.Proofs.Ytjobfnicnoffmaa.PPartTrees Go.Proofs.Ytjobfnicnoffmaa.Pt Go.Proofs.Ytjobfnicnoffmaa.Tr Go.Proofs.Ytjobfnicnoffmaa.Rx Go.Proofs.Ytjobfnicnoffmaa.Cv

/-- Is a place in a rectangle? -/
def In (x : S23) (px py : Int) : Prop := (x.f0 ≤ px ∧ px < x.f0 + x.f2) ∧ (x.f1 ≤ py ∧ py < x.f1 + x.f3)
instance (x : S23) (px py : Int) : Decidable (In x px py) := by unfold In; infer_instance
def one (x : S23) (px py : Int) : Int := if In x px py then 1 else 0
def tot (l : List S23) (px py : Int) : Int := (l.map fun x => one x px py).sum
theorem tot_nil (px py : Int) : tot [] px py = 0 := rfl
theorem tot_cons (x : S23) (l : List S23) (px py : Int) : tot (x :: l) px py = one x px py + tot l px py := by unfold tot; simp
theorem tot_append (l m : List S23) (px py : Int) : tot (l ++ m) px py = tot l px py + tot m px py := by unfold tot; rw [List.map_append, List.sum_append]
theorem cnt_tot (r : S23) (l : List S23) (j : Nat) : cnt r l j = tot l (r.f0 + 8 * ((j % 8 : Nat) : Int)) (r.f1 + 8 * ((j / 8 : Nat) : Int)) := rfl
/-- In multiples of 8 inside a region. -/
def Sub (q x : S23) : Prop := (x.f0 % 8 = 0 ∧ q.f0 ≤ x.f0 ∧ x.f0 + x.f2 ≤ q.f0 + q.f2 ∧ 8 ≤ x.f2 ∧ x.f2 % 8 = 0) ∧ (x.f1 % 8 = 0 ∧ q.f1 ≤ x.f1 ∧ x.f1 + x.f3 ≤ q.f1 + q.f3 ∧ 8 ≤ x.f3 ∧ x.f3 % 8 = 0)
theorem Sub.trans {p q x : S23} (h : Sub p q) (k : Sub q x) : Sub p x := by unfold Sub at *; omega
theorem sub_good {r x : S23} (hr : r.f0 % 8 = 0 ∧ r.f1 % 8 = 0 ∧ r.f2 ≤ 64 ∧ r.f3 ≤ 64) (h : Sub r x) : GoodR r x := by
  unfold Sub at h
  refine ⟨((x.f0 - r.f0) / 8).toNat, ((x.f1 - r.f1) / 8).toNat, (x.f2 / 8).toNat, (x.f3 / 8).toNat, ?_⟩
  unfold Cv.Good
  omega
/-- The numbers of a region. -/
theorem reg_q {k : Nat} (hk : k ≤ 3) {r : S23} (h : IsReg k r) : ∃ q hf : Int, r.f2 / 4 = q ∧ r.f2 = 4 * q ∧ hf = 2 * q ∧ r.f3 = 4 * q ∧ r.f0 % 8 = 0 ∧ r.f1 % 8 = 0 ∧ ((k = 0 ∧ q = 2) ∨ (k = 1 ∧ q = 4) ∨ (k = 2 ∧ q = 8) ∨ (k = 3 ∧ q = 16)) := by
  obtain ⟨h1, h2, h3, h4⟩ := h
  rcases (show k = 0 ∨ k = 1 ∨ k = 2 ∨ k = 3 by omega) with rfl | rfl | rfl | rfl
  · have e : sideOf 0 = 8 := rfl
    rw [e] at h1 h2
    exact ⟨2, 4, by omega, by omega, by omega, by omega, h3.1, h4.1, .inl ⟨rfl, rfl⟩⟩
  · have e : sideOf 1 = 16 := rfl
    rw [e] at h1 h2
    exact ⟨4, 8, by omega, by omega, by omega, by omega, h3.1, h4.1, .inr (.inl ⟨rfl, rfl⟩)⟩
  · have e : sideOf 2 = 32 := rfl
    rw [e] at h1 h2
    exact ⟨8, 16, by omega, by omega, by omega, by omega, h3.1, h4.1, .inr (.inr (.inl ⟨rfl, rfl⟩))⟩
  · have e : sideOf 3 = 64 := rfl
    rw [e] at h1 h2
    exact ⟨16, 32, by omega, by omega, by omega, by omega, h3.1, h4.1, .inr (.inr (.inr ⟨rfl, rfl⟩))⟩
theorem types_le {k : Nat} (hk : k ≤ 3) : typesN (sideOf k) = if k = 0 then 1 else if k = 1 then 8 else 10 := by
  rcases (show k = 0 ∨ k = 1 ∨ k = 2 ∨ k = 3 by omega) with rfl | rfl | rfl | rfl <;> decide
/-- The parts lie in the region. -/
theorem parts_sub {k : Nat} (hk : k ≤ 3) {r : S23} (h : IsReg k r) (K : Int) (h0 : 0 ≤ K) (h1 : K < typesN r.f2) : ∀ x ∈ cutsL r K, Sub r x := by
  obtain ⟨q, hf, e1, e2, e3, e4, m0, m1, hq⟩ := reg_q hk h
  rw [h.1, types_le hk] at h1
  obtain ⟨f0, f1, f2, f3⟩ := r
  dsimp only at e1 e2 e4 m0 m1
  rw [cut_forms f0 f1 f2 f3 q hf K e1 e2 e3]
  clear h
  intro x hx
  unfold forms at hx
  unfold Sub
  subst e2
  subst e3
  subst e4
  clear e1
  have hc : (K = 0) ∨ (1 ≤ K ∧ K ≤ 7 ∧ (q = 4 ∨ q = 8 ∨ q = 16)) ∨ (8 ≤ K ∧ (q = 8 ∨ q = 16)) := by
    rcases hq with ⟨rfl, hq⟩ | ⟨rfl, hq⟩ | ⟨rfl, hq⟩ | ⟨rfl, hq⟩ <;> simp at h1 <;> omega
  have hq2 : q = 2 ∨ q = 4 ∨ q = 8 ∨ q = 16 := by omega
  clear hq h1 hk
  by_cases k0 : K = 0
  · rw [if_pos k0] at hx
    simp only [List.mem_cons, List.not_mem_nil, or_false] at hx
    subst hx
    dsimp only
    omega
  · rw [if_neg k0] at hx
    repeat' split at hx
    all_goals (simp only [List.mem_cons, List.not_mem_nil, or_false] at hx)
    all_goals (first | (rcases hx with rfl | rfl | rfl | rfl <;> (dsimp only; omega)) | (rcases hx with rfl | rfl | rfl <;> (dsimp only; omega)) | (rcases hx with rfl | rfl <;> (dsimp only; omega)))
/-- Each place of the region is in one part. -/
theorem parts_tot {k : Nat} (hk : k ≤ 3) {r : S23} (h : IsReg k r) (K : Int) (px py : Int) : tot (cutsL r K) px py = one r px py := by
  obtain ⟨q, hf, e1, e2, e3, e4, m0, m1, hq⟩ := reg_q hk h
  obtain ⟨f0, f1, f2, f3⟩ := r
  dsimp only at e1 e2 e4 m0 m1
  rw [cut_forms f0 f1 f2 f3 q hf K e1 e2 e3]
  have hq2 : 2 ≤ q := by omega
  clear h hq m0 m1 hk
  subst e2
  subst e3
  subst e4
  clear e1
  unfold forms
  repeat' split
  all_goals (simp only [tot_cons, tot_nil]; unfold one In; dsimp only; repeat' split)
  all_goals omega
theorem in_apart {r a : S23} (h : apartB r a = true) (px py : Int) : ¬ (In r px py ∧ In a px py) := by
  unfold apartB at h
  simp only [Bool.or_eq_true, decide_eq_true_eq] at h
  unfold In
  omega
theorem in_inside {r a : S23} (h : insideB r a = true) (px py : Int) (hi : In r px py) : In a px py := by
  unfold insideB at h
  simp only [Bool.and_eq_true, decide_eq_true_eq] at h
  unfold In at *
  omega
/-- How often a place is covered by the leaves. -/
def both (r a : S23) (px py : Int) : Int := if In r px py ∧ In a px py then 1 else 0
theorem both_in {r a : S23} (px py : Int) (h : In r px py → In a px py) : both r a px py = one r px py := by
  unfold both one
  by_cases hr : In r px py
  · rw [if_pos hr, if_pos ⟨hr, h hr⟩]
  · rw [if_neg hr, if_neg (fun e => hr e.1)]
theorem both_out {r a : S23} (px py : Int) (h : ¬ (In r px py ∧ In a px py)) : both r a px py = 0 := by unfold both; rw [if_neg h]
theorem fold_tot {sub : S23 → List Int → List S23 × List Int} {a : S23} (px py : Int) (qs : List S23) (h : ∀ q ∈ qs, ∀ l, tot (sub q l).1 px py = both q a px py) (l : List Int) : tot (foldQ sub qs l).1 px py = (qs.map fun q => both q a px py).sum := by
  induction qs generalizing l with
  | nil => rfl
  | cons q qs ih =>
    unfold foldQ
    dsimp only
    rw [tot_append, h q List.mem_cons_self, ih (fun p hp => h p (List.mem_cons_of_mem _ hp))]
    simp
theorem sum_both (a : S23) (px py : Int) (qs : List S23) : (qs.map fun q => both q a px py).sum = if In a px py then tot qs px py else 0 := by
  induction qs with
  | nil => simp [tot_nil]
  | cons q qs ih =>
    rw [List.map_cons, List.sum_cons, ih, tot_cons]
    unfold both one
    by_cases ha : In a px py
    · simp [ha]
    · simp [ha]
theorem fold_sub {sub : S23 → List Int → List S23 × List Int} {r : S23} (qs : List S23) (hq : ∀ q ∈ qs, Sub r q) (h : ∀ q ∈ qs, ∀ l, ∀ x ∈ (sub q l).1, Sub q x) (l : List Int) : ∀ x ∈ (foldQ sub qs l).1, Sub r x := by
  induction qs generalizing l with
  | nil => intro x hx; cases hx
  | cons q qs ih =>
    intro x hx
    unfold foldQ at hx
    rcases List.mem_append.1 hx with h1 | h1
    · exact (hq q List.mem_cons_self).trans (h q List.mem_cons_self l x h1)
    · exact ih (fun p hp => hq p (List.mem_cons_of_mem _ hp)) (fun p hp => h p (List.mem_cons_of_mem _ hp)) _ x h1
def Al (a : S23) : Prop := a.f0 % 8 = 0 ∧ a.f1 % 8 = 0 ∧ a.f2 % 8 = 0 ∧ a.f3 % 8 = 0
/-- A region of 8 lies in the area or has no place in it. -/
theorem eight {r a : S23} (hr : IsReg 0 r) (ha : Al a) (h1 : apartB r a = false) (h2 : insideB r a = false) : False := by
  obtain ⟨e1, e2, e3, e4⟩ := hr
  have e : sideOf 0 = 8 := rfl
  rw [e] at e1 e2 e3 e4
  unfold apartB at h1
  unfold insideB at h2
  simp only [Bool.or_eq_false_iff, Bool.and_eq_false_iff, decide_eq_false_iff_not] at h1 h2
  unfold Al at ha
  omega
theorem next_in (n : Int) (hn : 0 < n) (l : List Int) : 0 ≤ nextK n l ∧ nextK n l < n := by
  unfold nextK
  split
  · omega
  · exact ⟨Int.emod_nonneg _ (by omega), Int.emod_lt_of_pos _ hn⟩
theorem self_sub {k : Nat} (hk : k ≤ 3) {r : S23} (h : IsReg k r) : Sub r r := parts_sub hk h 0 (by omega) (by rw [h.1, types_le hk]; split <;> (try split) <;> omega) r (by unfold cutsL; rw [if_pos rfl]; exact List.mem_singleton.2 rfl)
theorem tree_both (a : S23) (ha : Al a) (k : Nat) (hk : k ≤ 3) : ∀ r, IsReg k r → ∀ l px py, tot (treeF k a r l).1 px py = both r a px py := by
  induction k with
  | zero =>
    intro r hr l px py
    unfold treeF
    by_cases h1 : apartB r a = true
    · rw [if_pos h1]
      exact (both_out px py (in_apart h1 px py)).symm
    · rw [if_neg h1]
      by_cases h2 : insideB r a = true
      · rw [if_pos h2, both_in px py (in_inside h2 px py)]
        show tot [r] px py = _
        rw [tot_cons, tot_nil, Int.add_zero]
      · exact (eight hr ha (by simpa using h1) (by simpa using h2)).elim
  | succ k ih =>
    intro r hr l px py
    have hf : ∀ l, tot (foldQ (treeF k a) (cutsL r 3) l).1 px py = both r a px py := fun l => by
      rw [fold_tot px py (cutsL r 3) (fun q hq l => ih (by omega) q (quarters_reg hr q hq) l px py), sum_both, parts_tot hk hr 3]
      unfold both one
      by_cases ha : In a px py <;> by_cases hb : In r px py <;> simp [ha, hb]
    unfold treeF
    by_cases h1 : apartB r a = true
    · rw [if_pos h1]
      exact (both_out px py (in_apart h1 px py)).symm
    · rw [if_neg h1]
      by_cases h2 : insideB r a = true
      · rw [if_pos h2]
        by_cases h3 : nextK (typesN r.f2) l = 3
        · rw [if_pos h3]; exact hf _
        · rw [if_neg h3, both_in px py (in_inside h2 px py)]
          exact parts_tot hk hr _ px py
      · rw [if_neg h2]; exact hf _
theorem tree_sub (a : S23) (k : Nat) (hk : k ≤ 3) : ∀ r, IsReg k r → ∀ l, ∀ x ∈ (treeF k a r l).1, Sub r x := by
  induction k with
  | zero =>
    intro r hr l x hx
    unfold treeF at hx
    split at hx
    · cases hx
    · split at hx
      · rw [List.mem_singleton.1 hx]; exact self_sub hk hr
      · cases hx
  | succ k ih =>
    intro r hr l x hx
    have ht := types_succ hk
    rw [← hr.1] at ht
    have hf : ∀ l, ∀ x ∈ (foldQ (treeF k a) (cutsL r 3) l).1, Sub r x := fold_sub (cutsL r 3) (parts_sub hk hr 3 (by omega) (by omega)) (fun q hq l => ih (by omega) q (quarters_reg hr q hq) l)
    unfold treeF at hx
    split at hx
    · cases hx
    · split at hx
      · split at hx
        · exact hf _ x hx
        · obtain ⟨n0, n1⟩ := next_in (typesN r.f2) (by omega) l
          exact parts_sub hk hr _ n0 n1 x hx
      · exact hf _ x hx
end Go.Proofs.Ytjobfnicnoffmaa.Pz
