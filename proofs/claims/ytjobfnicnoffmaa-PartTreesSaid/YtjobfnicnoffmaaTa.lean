/- The closure of part.Blocks that goes through a tree: at each size. -/
import Derived.Test.YtjobfnicnoffmaaTr
namespace Go.Proofs.Ytjobfnicnoffmaa.Tr
open Go.RowKit Go.Proofs.Ytjobfnicnoffmaa.PPartTrees Go.Proofs.Ytjobfnicnoffmaa.Pt Go.Proofs.Ytjobfnicnoffmaa.Ph Go.Proofs.Ytjobfnicnoffmaa.Pc

theorem cutsL_len (r : S23) (kind : Int) : (cutsL r kind).length ≤ 4 := by
  unfold cutsL
  split
  · simp
  · rw [List.length_map]; exact quads_len kind
theorem foldQ_bound {sub : S23 → List Int → List S23 × List Int} {b : Nat} (hlen : ∀ q l, (sub q l).1.length ≤ b) (qs : List S23) (l : List Int) : (foldQ sub qs l).1.length ≤ b * qs.length := by
  induction qs generalizing l with
  | nil => simp [foldQ]
  | cons q qs ih =>
    unfold foldQ
    have h1 := hlen q l
    have h2 := ih (sub q l).2
    rw [List.length_append, List.length_cons, Nat.mul_succ]; omega
theorem treeF_len (a : S23) (k : Nat) : ∀ (r : S23) (l : List Int), (treeF k a r l).1.length ≤ 4 ^ (k + 1) := by
  induction k with
  | zero =>
    intro r l
    unfold treeF
    split
    · simp
    · split <;> simp
  | succ k ih =>
    intro r l
    have hp : 1 ≤ 4 ^ k := Nat.pow_pos (by omega)
    have h4 : 4 ^ (k + 1 + 1) = 4 ^ (k + 1) * 4 := Nat.pow_succ ..
    have h5 : 4 ^ (k + 1) = 4 ^ k * 4 := Nat.pow_succ ..
    have hf : ∀ l, (foldQ (treeF k a) (cutsL r 3) l).1.length ≤ 4 ^ (k + 1) * 4 := fun l => foldQ_bound ih (cutsL r 3) l
    unfold treeF
    split
    · simp
    · split
      · split
        · have := hf l.tail; omega
        · have := cutsL_len r (nextK (typesN r.f2) l)
          show (cutsL r _).length ≤ _
          omega
      · have := hf l; omega
/-- What is left stands at the end of what was there. -/
theorem foldQ_rest {sub : S23 → List Int → List S23 × List Int} (h : ∀ q l, ∃ p, l = p ++ (sub q l).2) (qs : List S23) (l : List Int) : ∃ p, l = p ++ (foldQ sub qs l).2 := by
  induction qs generalizing l with
  | nil => exact ⟨[], rfl⟩
  | cons q qs ih =>
    unfold foldQ
    obtain ⟨p1, h1⟩ := h q l
    obtain ⟨p2, h2⟩ := ih (sub q l).2
    exact ⟨p1 ++ p2, by rw [List.append_assoc, ← h2, ← h1]⟩
theorem tail_rest (l : List Int) : ∃ p, l = p ++ l.tail := by
  cases l with
  | nil => exact ⟨[], rfl⟩
  | cons x t => exact ⟨[x], rfl⟩
theorem treeF_rest (a : S23) (k : Nat) : ∀ (r : S23) (l : List Int), ∃ p, l = p ++ (treeF k a r l).2 := by
  induction k with
  | zero =>
    intro r l
    unfold treeF
    split
    · exact ⟨[], rfl⟩
    · split <;> exact ⟨[], rfl⟩
  | succ k ih =>
    intro r l
    unfold treeF
    split
    · exact ⟨[], rfl⟩
    · split
      · split
        · obtain ⟨p1, h1⟩ := tail_rest l
          obtain ⟨p2, h2⟩ := foldQ_rest ih (cutsL r 3) l.tail
          exact ⟨p1 ++ p2, by rw [List.append_assoc, ← h2, ← h1]⟩
        · exact tail_rest l
      · exact foldQ_rest ih (cutsL r 3) l
theorem treeF_le (a : S23) (k : Nat) (r : S23) (l : List Int) : (treeF k a r l).2.length ≤ l.length := by
  obtain ⟨p, h⟩ := treeF_rest a k r l
  have := congrArg List.length h
  rw [List.length_append] at this
  omega
theorem step_zero (a r : S23) (l : List Int) (hr : IsReg 0 r) : stepF (fun _ l => ([], l)) a r l = treeF 0 a r l := by
  have hw : r.f2 = 8 := hr.1
  have ht : typesN r.f2 = 1 := by rw [hw]; decide
  have hc : cutAns r 3 = [] := by
    unfold cutAns cutOk
    rw [ht]
    simp
  unfold stepF treeF
  rw [hc, ht, if_pos rfl]
  rfl
theorem step_succ (a r : S23) (l : List Int) (k : Nat) (hk : k + 1 ≤ 3) (hr : IsReg (k + 1) r) : stepF (treeF k a) a r l = treeF (k + 1) a r l := by
  have hw : r.f2 = sideOf (k + 1) := hr.1
  have ht := types_succ hk
  rw [← hw] at ht
  have hc : cutAns r 3 = cutsL r 3 := by
    unfold cutAns
    rw [cutOk_of hk hr 3 (by omega) (by omega), if_pos rfl]
  unfold stepF
  rw [hc, treeF]
  rw [if_neg (show ¬ typesN r.f2 = 1 by omega)]
theorem tree_any (W0 : World) (ga gn gt gl : Nat) (a : S23) (ha : Small a) (k : Nat) (hk : k ≤ 3) : ∀ r, IsReg k r → Tree W0 ga gn gt gl a r (treeF k a r) := by
  induction k with
  | zero =>
    intro r hr
    have hs := tree_step W0 ga gn gt gl a r (fun _ l => ([], l)) ha (hr.regB (by omega))
      (fun q hq => by
        have hw : r.f2 = 8 := hr.1
        have : cutAns r 3 = [] := by
          unfold cutAns cutOk
          rw [show typesN r.f2 = 1 by rw [hw]; decide]
          simp
        rw [this] at hq
        cases hq) (fun q l => by simp)
    intro l w hc hl
    have := hs l w hc hl
    rw [step_zero a r l hr] at this
    exact this
  | succ k ih =>
    intro r hr
    have hc : cutAns r 3 = cutsL r 3 := by
      have ht := types_succ hk
      rw [← hr.1] at ht
      unfold cutAns
      rw [cutOk_of hk hr 3 (by omega) (by omega), if_pos rfl]
    have hs := tree_step W0 ga gn gt gl a r (treeF k a) ha (hr.regB hk)
      (fun q hq => by
        rw [hc] at hq
        exact ih (by omega) q (quarters_reg hr q hq))
      (fun q l => by
        have h1 := treeF_len a k q l
        have h2 : 4 ^ (k + 1) ≤ 4 ^ 3 := Nat.pow_le_pow_right (by omega) hk
        omega)
    intro l w hcp hl
    have := hs l w hcp hl
    rw [step_succ a r l k hk hr] at this
    exact this
end Go.Proofs.Ytjobfnicnoffmaa.Tr
