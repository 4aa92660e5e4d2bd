/- What the small functions of part come to: sizes, regions, parts; apart, inside. -/
import Derived.Test.YtjobfnicnoffmaaPPartTreesx2
import Derived.Test.YtjobfnicnoffmaaPPartTreesx3
import Derived.Test.YtjobfnicnoffmaaPt
namespace Go.Proofs.Ytjobfnicnoffmaa.Ph
open Go.RowKit Go.Proofs.Ytjobfnicnoffmaa.PPartTrees Go.Proofs.YtjobfnicnoffmaaW.PrintWords Go.Proofs.YtjobfnicnoffmaaW.PrintLast Go.Proofs.YtjobfnicnoffmaaW.PrintMore Go.Proofs.Ytjobfnicnoffmaa.Pt

theorem w64 {n : Int} (h0 : -9223372036854775808 ≤ n) (h1 : n ≤ 9223372036854775807) : wrap64 n = n := by unfold wrap64; omega
/-- A rectangle as a value. -/
abbrev aggS (r : S23) : Value := .agg #[.int .i64 r.f0, .int .i64 r.f1, .int .i64 r.f2, .int .i64 r.f3]
/-- Its numbers are small. -/
def Small (r : S23) : Prop := (-100000 ≤ r.f0 ∧ r.f0 ≤ 100000) ∧ (-100000 ≤ r.f1 ∧ r.f1 ≤ 100000) ∧ (-100000 ≤ r.f2 ∧ r.f2 ≤ 100000) ∧ (-100000 ≤ r.f3 ∧ r.f3 ≤ 100000)

theorem types_eq (n : Int) : part_Types.f 1 n = some (typesN n, typesE n) := by
  unfold part_Types.f typesE typesN part_Types.j0
  by_cases h1 : n = 32
  · subst h1; rfl
  · rw [if_neg h1]
    by_cases h2 : n = 64
    · subst h2; rfl
    · by_cases h3 : n = 16
      · subst h3; rfl
      · by_cases h4 : n = 8
        · subst h4; rfl
        · simp [h1, h2, h3, h4]
theorem rtypes_eq (n : Int) : zoetroperef16_Types.f 1 n = some (typesN n, typesE n) := by
  unfold zoetroperef16_Types.f typesE typesN zoetroperef16_Types.j0
  by_cases h1 : n = 64
  · subst h1; rfl
  · rw [if_neg h1]
    by_cases h2 : n = 32
    · subst h2; rfl
    · by_cases h3 : n = 16
      · subst h3; rfl
      · by_cases h4 : n = 8
        · subst h4; rfl
        · simp [h1, h2, h3, h4]
theorem eights_eq (n a b : Int) (h : n ≤ 9223372036854775807) (ha : 0 ≤ a) : part_eights.f n a b = some (eightsB n a b) := by
  unfold part_eights.f
  by_cases h4 : 0 ≤ n
  · have hk : ∀ n : Int, 0 ≤ n → n < 2 ^ 63 → IntKind.i64.wrap n = n := fun n a b => by rw [IntKind.wrap_i64]; omega
    have hb := Go.bits_mask .i64 63 (by decide) hk 3 (by decide) n (by omega) (by omega)
    have hb' : Go.bits .and .i64 n 7 = n % 8 := by simpa using hb
    rw [hb']
    unfold eightsB
    repeat' split
    all_goals (congr 1; rw [Bool.eq_iff_iff]; simp only [Bool.and_eq_true, decide_eq_true_eq, Bool.false_eq_true, false_iff]; omega)
  · have : eightsB n a b = false := by unfold eightsB; simp; omega
    rw [this]
    repeat' split
    all_goals first | rfl | omega
theorem reights_eq (n a b : Int) (ha : 0 ≤ a) : zoetroperef16_eights.f n a b = some (eightsB n a b) := by
  unfold zoetroperef16_eights.f eightsB
  by_cases h4 : 0 ≤ n
  · rw [Int.tmod_eq_emod_of_nonneg h4]
    repeat' split
    all_goals (congr 1; rw [Bool.eq_iff_iff]; simp only [Bool.and_eq_true, decide_eq_true_eq, Bool.false_eq_true, false_iff]; omega)
  · repeat' split
    all_goals (congr 1; rw [Bool.eq_iff_iff]; simp only [Bool.and_eq_true, decide_eq_true_eq, Bool.false_eq_true, false_iff]; omega)
theorem typesE_iff (n : Int) : typesE n = 0 ↔ typesN n ≠ 0 := by unfold typesE; split <;> simp_all
theorem region_eq (r : S23) (h0 : r.f0 ≤ 9223372036854775807) (h1 : r.f1 ≤ 9223372036854775807) : part_region.f 1 r.f0 r.f1 r.f2 r.f3 = some (regB r) := by
  unfold part_region.f
  rw [types_eq, Option.bind_some, eights_eq _ _ _ h0 (by omega), eights_eq _ _ _ h1 (by omega), Option.bind_some, Option.bind_some]
  unfold regB
  simp only [typesE_iff]
  by_cases a : typesN r.f2 ≠ 0
  · rw [if_pos a]
    by_cases b : r.f2 = r.f3
    · rw [if_pos b]
      rw [decide_eq_true a, decide_eq_true b]
      cases eightsB r.f0 0 2048 <;> simp
    · rw [if_neg b]; simp [b]
  · rw [if_neg a]; simp [a]
theorem rregion_eq (r : S23) : zoetroperef16_region.f 1 r.f0 r.f1 r.f2 r.f3 = some (regB r) := by
  unfold zoetroperef16_region.f
  rw [rtypes_eq, Option.bind_some, reights_eq _ _ _ (by omega), reights_eq _ _ _ (by omega), Option.bind_some, Option.bind_some]
  unfold regB
  simp only [typesE_iff]
  by_cases a : typesN r.f2 ≠ 0
  · rw [if_pos a]
    by_cases b : r.f2 = r.f3
    · rw [if_pos b]
      rw [decide_eq_true a, decide_eq_true b]
      cases eightsB r.f0 0 2048 <;> simp
    · rw [if_neg b]; simp [b]
  · rw [if_neg a]; simp [a]
theorem piece_eq (r : S23) (q : Q4) (hr : regB r = true) (hq : (0 ≤ q.a ∧ q.a ≤ 4) ∧ (0 ≤ q.b ∧ q.b ≤ 4) ∧ (0 ≤ q.c ∧ q.c ≤ 4) ∧ (0 ≤ q.d ∧ q.d ≤ 4)) :
    part_piece.f r.f0 r.f1 r.f2 r.f3 q.a q.b q.c q.d = some ((piece r q).f0, (piece r q).f1, (piece r q).f2, (piece r q).f3) := by
  obtain ⟨hw, h3, h0, h1⟩ := regB_iff.1 hr
  obtain ⟨q0, q1, q2, q3⟩ := hq
  unfold part_piece.f piece
  rw [Int.tdiv_eq_ediv_of_nonneg (by omega)]
  have hs : 0 ≤ r.f2 / 4 ∧ r.f2 / 4 ≤ 16 := by omega
  rw [w64 (n := r.f2 / 4) (by omega) (by omega)]
  obtain ⟨s, es⟩ : ∃ s, r.f2 / 4 = s := ⟨_, rfl⟩
  rw [es] at hs ⊢
  have m : ∀ x : Int, 0 ≤ x → x ≤ 4 → 0 ≤ x * s ∧ x * s ≤ 64 := fun x a b => ⟨Int.mul_nonneg a hs.1, by
    have := Int.mul_le_mul b hs.2 hs.1 (by omega)
    omega⟩
  have m0 := m q.a q0.1 q0.2
  have m1 := m q.b q1.1 q1.2
  have m2 := m q.c q2.1 q2.2
  have m3 := m q.d q3.1 q3.2
  generalize q.a * s = a0 at *
  generalize q.b * s = a1 at *
  generalize q.c * s = a2 at *
  generalize q.d * s = a3 at *
  rw [w64 (n := a0) (by omega) (by omega), w64 (n := a1) (by omega) (by omega), w64 (n := a2) (by omega) (by omega), w64 (n := a3) (by omega) (by omega), w64 (n := r.f0 + a0) (by omega) (by omega), w64 (n := r.f1 + a1) (by omega) (by omega)]

theorem types_any (n : Int) (w : World) : Calls Try.prog 14 #[.int .i64 n] w fun e w' => e = .returned (.tuple #[.int .i64 (typesN n), .int .i64 (typesE n)]) ∧ Drawn0 w w' := part_Types.calls 1 n _ _ w (types_eq n)
theorem rtypes_any (n : Int) (w : World) : Calls Try.prog 17 #[.int .i64 n] w fun e w' => e = .returned (.tuple #[.int .i64 (typesN n), .int .i64 (typesE n)]) ∧ Drawn0 w w' := zoetroperef16_Types.calls 1 n _ _ w (rtypes_eq n)
theorem region_any (r : S23) (w : World) (h0 : r.f0 ≤ 9223372036854775807) (h1 : r.f1 ≤ 9223372036854775807) : Calls Try.prog 25 #[aggS r] w fun e w' => e = .returned (.bool (regB r)) ∧ Below w.heap.size w w' := part_region.calls 1 _ _ _ _ _ w (region_eq r h0 h1)
theorem rregion_any (r : S23) (w : World) : Calls Try.prog 32 #[aggS r] w fun e w' => e = .returned (.bool (regB r)) ∧ Below w.heap.size w w' := zoetroperef16_region.calls 1 _ _ _ _ _ w (rregion_eq r)
theorem piece_any (r : S23) (q : Q4) (w : World) (hr : regB r = true) (hq : (0 ≤ q.a ∧ q.a ≤ 4) ∧ (0 ≤ q.b ∧ q.b ≤ 4) ∧ (0 ≤ q.c ∧ q.c ≤ 4) ∧ (0 ≤ q.d ∧ q.d ≤ 4)) :
    Calls Try.prog 31 #[aggS r, .int .i64 q.a, .int .i64 q.b, .int .i64 q.c, .int .i64 q.d] w fun e w' => e = .returned (aggS (piece r q)) ∧ Below w.heap.size w w' :=
  part_piece.calls _ _ _ _ _ _ _ _ _ _ _ _ w (piece_eq r q hr hq)

set_option maxRecDepth 100000 in
set_option maxHeartbeats 1000000 in
theorem apart_any (r a : S23) (w : World) (hr : Small r) (ha : Small a) : Calls Try.prog 28 #[aggS r, aggS a] w fun e w' => e = .returned (.bool (apartB r a)) ∧ Below w.heap.size w w' := by
  obtain ⟨r0, r1, r2, r3⟩ := r
  obtain ⟨a0, a1, a2, a3⟩ := a
  unfold Small at hr ha
  dsimp only at hr ha
  obtain ⟨b0, b1, b2, b3⟩ := hr
  obtain ⟨d0, d1, d2, d3⟩ := ha
  unfold apartB
  dsimp only
  by_cases c0 : r0 ≥ a0 + a2
  · have e0 : decide (r0 ≥ a0 + a2) = true := decide_eq_true c0
    rw [e0]
    go_enter Try.func28, Try.ntmps28
    go_wp2
    go_ret
    exact ⟨rfl, below_alloc (below_alloc (Below.refl _ _) _) _⟩
  · have e0 : decide (r0 ≥ a0 + a2) = false := decide_eq_false c0
    rw [e0]
    by_cases c1 : a0 ≥ r0 + r2
    · have e1 : decide (a0 ≥ r0 + r2) = true := decide_eq_true c1
      rw [e1]
      go_enter Try.func28, Try.ntmps28
      go_wp2
      go_ret
      exact ⟨rfl, below_alloc (below_alloc (Below.refl _ _) _) _⟩
    · have e1 : decide (a0 ≥ r0 + r2) = false := decide_eq_false c1
      rw [e1]
      by_cases c2 : r1 ≥ a1 + a3
      · have e2 : decide (r1 ≥ a1 + a3) = true := decide_eq_true c2
        rw [e2]
        go_enter Try.func28, Try.ntmps28
        go_wp2
        go_ret
        exact ⟨rfl, below_alloc (below_alloc (Below.refl _ _) _) _⟩
      · have e2 : decide (r1 ≥ a1 + a3) = false := decide_eq_false c2
        rw [e2]
        obtain ⟨t, ht⟩ : ∃ t, decide (a1 ≥ r1 + r3) = t := ⟨_, rfl⟩
        rw [ht]
        go_enter Try.func28, Try.ntmps28
        go_wp2
        go_ret
        exact ⟨rfl, below_alloc (below_alloc (Below.refl _ _) _) _⟩
set_option maxRecDepth 100000 in
set_option maxHeartbeats 1000000 in
theorem inside_any (r a : S23) (w : World) (hr : Small r) (ha : Small a) : Calls Try.prog 29 #[aggS r, aggS a] w fun e w' => e = .returned (.bool (insideB r a)) ∧ Below w.heap.size w w' := by
  obtain ⟨r0, r1, r2, r3⟩ := r
  obtain ⟨a0, a1, a2, a3⟩ := a
  unfold Small at hr ha
  dsimp only at hr ha
  obtain ⟨b0, b1, b2, b3⟩ := hr
  obtain ⟨d0, d1, d2, d3⟩ := ha
  unfold insideB
  dsimp only
  by_cases c0 : r0 ≥ a0
  · have e0 : decide (r0 ≥ a0) = true := decide_eq_true c0
    rw [e0]
    by_cases c1 : r1 ≥ a1
    · have e1 : decide (r1 ≥ a1) = true := decide_eq_true c1
      rw [e1]
      by_cases c2 : r0 + r2 ≤ a0 + a2
      · have e2 : decide (r0 + r2 ≤ a0 + a2) = true := decide_eq_true c2
        rw [e2]
        obtain ⟨t, ht⟩ : ∃ t, decide (r1 + r3 ≤ a1 + a3) = t := ⟨_, rfl⟩
        rw [ht]
        go_enter Try.func29, Try.ntmps29
        go_wp2
        go_ret
        exact ⟨rfl, below_alloc (below_alloc (Below.refl _ _) _) _⟩
      · have e2 : decide (r0 + r2 ≤ a0 + a2) = false := decide_eq_false c2
        rw [e2]
        go_enter Try.func29, Try.ntmps29
        go_wp2
        go_ret
        exact ⟨rfl, below_alloc (below_alloc (Below.refl _ _) _) _⟩
    · have e1 : decide (r1 ≥ a1) = false := decide_eq_false c1
      rw [e1]
      go_enter Try.func29, Try.ntmps29
      go_wp2
      go_ret
      exact ⟨rfl, below_alloc (below_alloc (Below.refl _ _) _) _⟩
  · have e0 : decide (r0 ≥ a0) = false := decide_eq_false c0
    rw [e0]
    go_enter Try.func29, Try.ntmps29
    go_wp2
    go_ret
    exact ⟨rfl, below_alloc (below_alloc (Below.refl _ _) _) _⟩
end Go.Proofs.Ytjobfnicnoffmaa.Ph
