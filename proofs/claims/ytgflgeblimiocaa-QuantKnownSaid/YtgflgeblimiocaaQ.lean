/- Plain arithmetic of layer 9 (steps, levels, values): whole numbers alone, no program. -/
import Derived.Test.YtgflgeblimiocaaWMore
import Derived.Laws.BitsLemmas
namespace Go.Proofs.Ytgflgeblimiocaa.Q
open Go.RowKit Go.Proofs.YtgflgeblimiocaaW.PrintWords Go.Proofs.YtgflgeblimiocaaW.PrintMore

theorem w64 {n : Int} (h0 : -9223372036854775808 ≤ n) (h1 : n ≤ 9223372036854775807) : wrap64 n = n := by unfold wrap64; omega

theorem and24 (x : Int) (h0 : 0 ≤ x) (h1 : x < 9223372036854775808) : Go.bits .and .i64 x 16777215 = x % 16777216 := by
  have hk : ∀ n : Int, 0 ≤ n → n < 2 ^ 63 → IntKind.i64.wrap n = n := fun n a b => by rw [IntKind.wrap_i64]; omega
  have h := Go.bits_mask .i64 63 (by decide) hk 24 (by decide) x h0 (by omega)
  simpa using h

/-- A size's scale, as a factor; 0: there is none. -/
def sc (z : Int) : Int := if z = 4 ∨ z = 8 ∨ z = 16 then 1 else if z = 32 then 2 else if z = 64 then 4 else 0
/-- May they be asked? -/
def okq (n st z : Int) : Bool := decide (-1048576 ≤ n ∧ n ≤ 1048576 ∧ 1 ≤ st ∧ st ≤ 32768 ∧ 0 < sc z)
def ab (n : Int) : Int := if n < 0 then -n else n
def sg (n b : Int) : Int := if b < 0 then -n else n
def cl (v a b : Int) : Int := if v < a then a else if v > b then b else v
def lv (c st z : Int) : Int := sg (mn ((ab c * sc z + st / 2) / st) 1048576) c
def vl (l st z : Int) : Int := cl (sg ((ab l * st) % 16777216 / sc z) l) (-32768) 32767

theorem sc_cases (z : Int) : (sc z = 1 ∧ (z = 4 ∨ z = 8 ∨ z = 16)) ∨ (sc z = 2 ∧ z = 32) ∨ (sc z = 4 ∧ z = 64) ∨ (sc z = 0 ∧ z ≠ 4 ∧ z ≠ 8 ∧ z ≠ 16 ∧ z ≠ 32 ∧ z ≠ 64) := by
  unfold sc
  split
  · rename_i h; exact .inl ⟨rfl, h⟩
  · split
    · rename_i h; exact .inr (.inl ⟨rfl, h⟩)
    · split
      · rename_i h; exact .inr (.inr (.inl ⟨rfl, h⟩))
      · exact .inr (.inr (.inr ⟨rfl, by omega⟩))

theorem okq_iff {n st z : Int} : okq n st z = true ↔ (-1048576 ≤ n ∧ n ≤ 1048576 ∧ 1 ≤ st ∧ st ≤ 32768 ∧ 0 < sc z) := by simp [okq]

theorem ab_le {n B : Int} (h0 : -B ≤ n) (h1 : n ≤ B) : 0 ≤ ab n ∧ ab n ≤ B := by unfold ab; split <;> omega
theorem mx_neg (n : Int) : mx n (-n) = ab n := by unfold mx ab; split <;> split <;> omega
theorem cl_eq (v : Int) : mn (mx v (-32768)) 32767 = cl v (-32768) 32767 := by unfold mn mx cl; split <;> split <;> (try split) <;> omega
theorem sg_wrap {n b : Int} (h0 : 0 ≤ n) (h1 : n ≤ 9223372036854775807) : (if b < 0 then some (wrap64 (-n)) else some n) = some (sg n b) := by
  unfold sg; split
  · rw [w64 (by omega) (by omega)]
  · rfl

/-- The numerator of a level, and its size. -/
theorem num_le {c st z : Int} (h : okq c st z = true) : 0 ≤ ab c * sc z + st / 2 ∧ ab c * sc z + st / 2 ≤ 4210688 ∧ 0 ≤ ab c * sc z ∧ ab c * sc z ≤ 4194304 := by
  obtain ⟨a, b, d, e, f⟩ := okq_iff.1 h
  obtain ⟨g0, g1⟩ := ab_le (n := c) (B := 1048576) (by omega) b
  rcases sc_cases z with ⟨k, _⟩ | ⟨k, _⟩ | ⟨k, _⟩ | ⟨k, _⟩ <;> rw [k] at f ⊢ <;> omega
theorem prod_le {l st z : Int} (h : okq l st z = true) : 0 ≤ ab l * st ∧ ab l * st ≤ 34359738368 := by
  obtain ⟨a, b, d, e, f⟩ := okq_iff.1 h
  obtain ⟨g0, g1⟩ := ab_le (n := l) (B := 1048576) (by omega) b
  refine ⟨Int.mul_nonneg g0 (by omega), ?_⟩
  calc ab l * st ≤ 1048576 * 32768 := Int.mul_le_mul g1 e (by omega) (by omega)
    _ = 34359738368 := by decide
theorem div_le {a b : Int} (h0 : 0 ≤ a) (hb : 1 ≤ b) : 0 ≤ a / b ∧ a / b ≤ a :=
  ⟨Int.ediv_nonneg h0 (by omega), Int.ediv_le_self _ h0⟩

/-- The level as the code reckons it: with a shift, tdiv, and its wraps. -/
theorem lv_code {c st z s : Int} (h : okq c st z = true) (hs : (s = 0 ∧ sc z = 1) ∨ (s = 1 ∧ sc z = 2) ∨ (s = 2 ∧ sc z = 4)) :
    mn (wrap64 (Int.tdiv (wrap64 ((shl .i64 (ab c) s) + (wrap64 (Int.tdiv st 2)))) st)) 1048576 = mn ((ab c * sc z + st / 2) / st) 1048576 := by
  obtain ⟨a, b, d, e, f⟩ := okq_iff.1 h
  obtain ⟨n0, n1, n2, n3⟩ := num_le h
  have e1 : shl .i64 (ab c) s = ab c * sc z := by
    rcases hs with ⟨rfl, k⟩ | ⟨rfl, k⟩ | ⟨rfl, k⟩ <;> rw [k] at n2 n3 ⊢ <;> simp [shl, IntKind.bits, IntKind.wrap_i64] <;> omega
  rw [e1, Int.tdiv_eq_ediv_of_nonneg (by omega : 0 ≤ st), w64 (n := st / 2) (by omega) (by omega), w64 (n := ab c * sc z + st / 2) (by omega) (by omega), Int.tdiv_eq_ediv_of_nonneg n0]
  have := div_le n0 d
  rw [w64 (by omega) (by omega)]

/-- The value as the code reckons it: with a mask and a shift. -/
theorem vl_code {l st z s : Int} (h : okq l st z = true) (hs : (s = 0 ∧ sc z = 1) ∨ (s = 1 ∧ sc z = 2) ∨ (s = 2 ∧ sc z = 4)) :
    shr .i64 (Go.bits .and .i64 (wrap64 (ab l * st)) 16777215) s = (ab l * st) % 16777216 / sc z := by
  obtain ⟨n0, n1⟩ := prod_le h
  rw [w64 (n := ab l * st) (by omega) (by omega), and24 _ n0 (by omega)]
  rcases hs with ⟨rfl, k⟩ | ⟨rfl, k⟩ | ⟨rfl, k⟩ <;> rw [k] <;> simp [shr, IntKind.bits]

/-- Both, as the reference reckons them. -/
theorem lv_ref {c st z : Int} (h : okq c st z = true) :
    mn (wrap64 (Int.tdiv (wrap64 ((wrap64 (ab c * sc z)) + (wrap64 (Int.tdiv st 2)))) st)) 1048576 = mn ((ab c * sc z + st / 2) / st) 1048576 := by
  obtain ⟨a, b, d, e, f⟩ := okq_iff.1 h
  obtain ⟨n0, n1, n2, n3⟩ := num_le h
  rw [Int.tdiv_eq_ediv_of_nonneg (by omega : 0 ≤ st), w64 (n := ab c * sc z) (by omega) (by omega), w64 (n := st / 2) (by omega) (by omega), w64 (n := ab c * sc z + st / 2) (by omega) (by omega), Int.tdiv_eq_ediv_of_nonneg n0]
  have := div_le n0 d
  rw [w64 (by omega) (by omega)]
theorem vl_ref {l st z : Int} (h : okq l st z = true) :
    wrap64 (Int.tdiv (Int.tmod (wrap64 (ab l * st)) 16777216) (sc z)) = (ab l * st) % 16777216 / sc z := by
  obtain ⟨n0, n1⟩ := prod_le h
  have f := (okq_iff.1 h).2.2.2.2
  rw [w64 (n := ab l * st) (by omega) (by omega), Int.tmod_eq_emod_of_nonneg n0, Int.tdiv_eq_ediv_of_nonneg (by omega)]
  have := div_le (a := (ab l * st) % 16777216) (b := sc z) (by omega) (by omega)
  rw [w64 (by omega) (by omega)]

theorem lv_pos {c st z : Int} (h : okq c st z = true) : 0 ≤ mn ((ab c * sc z + st / 2) / st) 1048576 ∧ mn ((ab c * sc z + st / 2) / st) 1048576 ≤ 1048576 := by
  obtain ⟨n0, _⟩ := num_le h
  have := div_le n0 (okq_iff.1 h).2.2.1
  unfold mn; split <;> omega
theorem vl_pos {l st z : Int} (h : okq l st z = true) : 0 ≤ (ab l * st) % 16777216 / sc z ∧ (ab l * st) % 16777216 / sc z ≤ 16777215 := by
  have := div_le (a := (ab l * st) % 16777216) (b := sc z) (by omega) (by have := (okq_iff.1 h).2.2.2.2; omega)
  omega

end Go.Proofs.Ytgflgeblimiocaa.Q
