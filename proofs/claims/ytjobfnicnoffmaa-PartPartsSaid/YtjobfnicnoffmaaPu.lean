/- Plain: what of the choices is used. No program. -/
import Derived.Test.YtjobfnicnoffmaaTa
namespace Go.Proofs.Ytjobfnicnoffmaa.Pu
open Go.RowKit Go.Proofs.Ytjobfnicnoffmaa.PPartTrees Go.Proofs.Ytjobfnicnoffmaa.Pt Go.Proofs.Ytjobfnicnoffmaa.Tr

/-- Turned by 40. -/
def Like (p q : List Int) : Prop := p.map (· % 40) = q.map (· % 40)
theorem Like.refl (p : List Int) : Like p p := rfl
theorem like_nil {p : List Int} (h : Like p []) : p = [] := by unfold Like at h; simpa using h
theorem like_cons {p q : List Int} {x : Int} (h : Like p (x :: q)) : ∃ y t, p = y :: t ∧ y % 40 = x % 40 ∧ Like t q := by
  unfold Like at h
  cases p with
  | nil => simp at h
  | cons y t => simp only [List.map_cons, List.cons.injEq] at h; exact ⟨y, t, rfl, h.1, h.2⟩
theorem like_append {p q1 q2 : List Int} (h : Like p (q1 ++ q2)) : ∃ p1 p2, p = p1 ++ p2 ∧ Like p1 q1 ∧ Like p2 q2 := by
  induction q1 generalizing p with
  | nil => exact ⟨[], p, rfl, Like.refl _, h⟩
  | cons x t ih =>
    obtain ⟨y, s, rfl, hy, hs⟩ := like_cons h
    obtain ⟨p1, p2, rfl, h1, h2⟩ := ih hs
    exact ⟨y :: p1, p2, rfl, by unfold Like at h1 ⊢; simp only [List.map_cons, hy, h1], h2⟩

/-- What a use of choices says: they stand ahead; without what stands behind all is the same; others that are alike are as good. -/
def Law (f : List Int → List S23 × List Int) : Prop :=
  ∀ l, ∃ p, l = p ++ (f l).2 ∧ f p = ((f l).1, []) ∧ ∀ p', Like p' p → ((f l).2 ≠ [] → ∀ s, f (p' ++ s) = ((f l).1, s)) ∧ ∀ s, (f (p' ++ s)).2.length ≤ s.length
theorem Law.le {f : List Int → List S23 × List Int} (h : Law f) (l : List Int) : (f l).2.length ≤ l.length := by
  obtain ⟨p, hp, -, -⟩ := h l
  have := congrArg List.length hp
  rw [List.length_append] at this
  omega
theorem law_none (L : List S23) : Law fun l => (L, l) := fun l => ⟨[], rfl, rfl, fun p' hp => by
  obtain rfl := like_nil hp
  exact ⟨fun _ s => rfl, fun s => Nat.le_refl _⟩⟩
theorem law_then {f g : List Int → List S23 × List Int} (hf : Law f) (hg : Law g) : Law fun l => ((f l).1 ++ (g (f l).2).1, (g (f l).2).2) := by
  intro l
  obtain ⟨p1, e1, a1, b1⟩ := hf l
  obtain ⟨p2, e2, a2, b2⟩ := hg (f l).2
  dsimp only
  refine ⟨p1 ++ p2, by rw [List.append_assoc, ← e2, ← e1], ?_, ?_⟩
  · by_cases hr : (f l).2 = []
    · have h2 : p2 = [] ∧ (g (f l).2).2 = [] := by
        have h := e2
        rw [hr] at h ⊢
        exact List.append_eq_nil_iff.1 h.symm
      have h1 : p1 = l := by rw [hr, List.append_nil] at e1; exact e1.symm
      rw [h2.1, List.append_nil, h1, h2.2]
    · have hb := (b1 p1 (Like.refl _)).1 hr p2
      rw [hb]
      dsimp only
      rw [a2]
  · intro p' hp'
    obtain ⟨q1, q2, rfl, h1, h2⟩ := like_append hp'
    refine ⟨fun hr s => ?_, fun s => ?_⟩
    · have hr1 : (f l).2 ≠ [] := by
        intro h
        rw [h] at e2
        have := List.append_eq_nil_iff.1 e2.symm
        rw [h] at hr
        exact hr this.2
      have hb := (b1 q1 h1).1 hr1 (q2 ++ s)
      rw [List.append_assoc, hb]
      dsimp only
      rw [(b2 q2 h2).1 hr s]
    · by_cases hr : (f l).2 = []
      · have hp2 : p2 = [] := by
          rw [hr] at e2
          exact (List.append_eq_nil_iff.1 e2.symm).1
        rw [hp2] at h2
        obtain rfl := like_nil h2
        rw [List.append_nil]
        have hc := (b1 q1 h1).2 s
        have hl := hg.le (f (q1 ++ s)).2
        omega
      · have hb := (b1 q1 h1).1 hr (q2 ++ s)
        rw [List.append_assoc, hb]
        exact (b2 q2 h2).2 s
theorem law_fold {sub : S23 → List Int → List S23 × List Int} (qs : List S23) (h : ∀ q ∈ qs, Law (sub q)) : Law (foldQ sub qs) := by
  induction qs with
  | nil => exact law_none []
  | cons q qs ih => exact law_then (h q (List.mem_cons_self)) (ih fun p hp => h p (List.mem_cons_of_mem _ hp))
/-- One choice of n, then what it asks for. -/
theorem law_next {n : Int} (hn : n = 8 ∨ n = 10) {G : List Int → List S23 × List Int} (hG : Law G) (C : Int → List S23) :
    Law fun l => if nextK n l = 3 then G l.tail else (C (nextK n l), l.tail) := by
  intro l
  cases l with
  | nil =>
    have h0 : nextK n [] = 0 := rfl
    have hne : ¬ (0 : Int) = 3 := by decide
    refine ⟨[], by dsimp only; rw [h0, if_neg hne]; rfl, by dsimp only; rw [h0, if_neg hne]; rfl, fun p' hp' => ?_⟩
    obtain rfl := like_nil hp'
    refine ⟨fun hr => absurd (by dsimp only; rw [h0, if_neg hne]; rfl) hr, fun s => ?_⟩
    dsimp only
    rw [List.nil_append]
    have ht : s.tail.length ≤ s.length := by rw [List.length_tail]; omega
    split
    · have := hG.le s.tail; omega
    · exact ht
  | cons x t =>
    have hk : ∀ y s, nextK n (y :: s) = y % n := fun y s => rfl
    have hmod : ∀ y : Int, y % 40 = x % 40 → y % n = x % n := by
      intro y hy
      rcases hn with rfl | rfl <;> omega
    dsimp only
    rw [hk]
    by_cases h3 : x % n = 3
    · rw [if_pos h3]
      obtain ⟨p, e, a, b⟩ := hG t
      refine ⟨x :: p, by rw [List.cons_append, List.tail_cons, ← e], by rw [hk, if_pos h3]; exact a, fun p' hp' => ?_⟩
      obtain ⟨y, s, rfl, hy, hs⟩ := like_cons hp'
      have hy3 : y % n = 3 := by rw [hmod y hy]; exact h3
      refine ⟨fun hr s' => ?_, fun s' => ?_⟩
      · rw [List.cons_append, hk, if_pos hy3]; exact (b s hs).1 hr s'
      · rw [List.cons_append, hk, if_pos hy3]; exact (b s hs).2 s'
    · rw [if_neg h3]
      refine ⟨[x], rfl, by rw [hk, if_neg h3]; rfl, fun p' hp' => ?_⟩
      obtain ⟨y, s, rfl, hy, hs⟩ := like_cons hp'
      obtain rfl := like_nil hs
      have hy3 : ¬ y % n = 3 := by rw [hmod y hy]; exact h3
      refine ⟨fun _ s' => ?_, fun s' => ?_⟩
      · rw [List.cons_append, hk, if_neg hy3, hmod y hy]; rfl
      · rw [List.cons_append, hk, if_neg hy3]; exact Nat.le_refl _
theorem law_tree (a : S23) (k : Nat) (hk : k ≤ 3) : ∀ r, IsReg k r → Law (treeF k a r) := by
  induction k with
  | zero =>
    intro r hr
    have e : treeF 0 a r = fun l => if apartB r a = true then ([], l) else if insideB r a = true then ([r], l) else ([], l) := rfl
    rw [e]
    split
    · exact law_none []
    · split
      · exact law_none [r]
      · exact law_none []
  | succ k ih =>
    intro r hr
    have ht := types_succ hk
    rw [← hr.1] at ht
    have hf : Law (foldQ (treeF k a) (cutsL r 3)) := law_fold _ (fun q hq => ih (by omega) q (quarters_reg hr q hq))
    have e : treeF (k + 1) a r = fun l => if apartB r a = true then ([], l) else if insideB r a = true then (if nextK (typesN r.f2) l = 3 then foldQ (treeF k a) (cutsL r 3) l.tail else (cutsL r (nextK (typesN r.f2) l), l.tail)) else foldQ (treeF k a) (cutsL r 3) l := rfl
    rw [e]
    split
    · exact law_none []
    · split
      · exact law_next ht hf (cutsL r)
      · exact hf
/-- At most so many are used. -/
def uses : Nat → Nat
  | 0 => 0
  | k + 1 => 1 + 4 * uses k
theorem uses_fold {sub : S23 → List Int → List S23 × List Int} {u : Nat} (qs : List S23) (h : ∀ q l, l.length ≤ (sub q l).2.length + u) (l : List Int) : l.length ≤ (foldQ sub qs l).2.length + qs.length * u := by
  induction qs generalizing l with
  | nil => simp [foldQ]
  | cons q qs ih =>
    unfold foldQ
    have h1 := h q l
    have h2 := ih (sub q l).2
    dsimp only
    rw [List.length_cons, Nat.succ_mul]
    omega
theorem uses_tree (a : S23) (k : Nat) : ∀ r l, l.length ≤ (treeF k a r l).2.length + uses k := by
  induction k with
  | zero =>
    intro r l
    unfold treeF
    split
    · exact Nat.le_add_right _ _
    · split <;> exact Nat.le_add_right _ _
  | succ k ih =>
    intro r l
    have hf := fun l => uses_fold (cutsL r 3) ih l
    have h4 : (cutsL r 3).length = 4 := rfl
    unfold treeF uses
    split
    · simp
    · split
      · split
        · have h1 := hf l.tail
          rw [h4, List.length_tail] at h1
          omega
        · show l.length ≤ l.tail.length + _
          rw [List.length_tail]; omega
      · have h1 := hf l
        rw [h4] at h1
        omega
end Go.Proofs.Ytjobfnicnoffmaa.Pu
