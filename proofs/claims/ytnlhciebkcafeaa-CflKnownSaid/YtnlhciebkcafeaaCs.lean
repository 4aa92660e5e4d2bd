/- Plain facts for CflSigns, and what its printed helpers come to. -/
import Derived.Test.YtnlhciebkcafeaaPCflSignsx1
import Derived.Test.YtnlhciebkcafeaaPd
namespace Go.Proofs.Ytnlhciebkcafeaa.Cs
open Go.RowKit Go.Proofs.Ytnlhciebkcafeaa.PCflSigns Go.Proofs.YtnlhciebkcafeaaW.PrintWords Go.Proofs.YtnlhciebkcafeaaW.PrintLast Go.Proofs.YtnlhciebkcafeaaW.PrintMore Go.Proofs.Ytnlhciebkcafeaa.Cf Go.Proofs.Ytnlhciebkcafeaa.Pd

theorem w64 {n : Int} (h0 : -9223372036854775808 ≤ n) (h1 : n ≤ 9223372036854775807) : wrap64 n = n := by unfold wrap64; omega
theorem rd_nat (xs : List Int) (j : Nat) : rd xs (j : Int) = xs.getD j 0 := Eq.trans rfl rfl
/-- Any number brought to 0 .. n-1. -/
theorem bring_eq (a n : Int) (hn : 0 < n) (hn' : n ≤ 100000) : zoetroperef00_Bring.f a n = some (a % n) := by
  unfold zoetroperef00_Bring.f
  rw [if_neg (by omega), if_neg (by omega)]
  have h0 := Int.emod_nonneg a (show n ≠ 0 by omega)
  have h1 := Int.emod_lt_of_pos a hn
  have ht : Int.tmod a n = if 0 ≤ a ∨ n ∣ a then a % n else a % n - n := by
    rw [Int.tmod_eq_emod]; split <;> omega
  rw [ht]
  clear ht
  by_cases hc : 0 ≤ a ∨ n ∣ a
  · rw [if_pos hc, if_neg (by omega)]
  · rw [if_neg hc, if_pos (by omega)]
    congr 1
    have e : a % n - n + n = a % n := by omega
    rw [e]
    unfold wrap64; omega

def Ins (xs : List Int) : Prop := ∀ x ∈ xs, In x
theorem set_ins {xs : List Int} (h : Ins xs) (i : Nat) {b : Int} (hb : In b) : Ins (xs.set i b) := fun x hx => by
  rcases List.mem_or_eq_of_mem_set hx with h1 | rfl
  · exact h x h1
  · exact hb
set_option maxHeartbeats 1000000 in
theorem nums_round (k : Nat) (xs out : List Int) (i : Nat) (hob : Ins out) (hi : i < out.length) (ho : out.length ≤ 1024) :
    ∃ out', zoetropelaw13_numbersOf.l0 (k + 1) xs out.length out i = zoetropelaw13_numbersOf.l0 k xs out.length out' (i + 1 : Nat) ∧ out'.length = out.length ∧ Ins out' := by
  have e1 := Aside0.mk (w64 (n := (i : Int) + 1) (by omega) (by omega))
  rw [zoetropelaw13_numbersOf.l0]
  simp only [e1.out]
  rw [if_pos (by omega)]
  by_cases hx : (xs.length : Int) > 0
  · rw [if_pos hx, if_neg (by omega), Int.tmod_eq_emod_of_nonneg (by omega)]
    have h0 := Int.emod_nonneg (i : Int) (show (xs.length : Int) ≠ 0 by omega)
    have h1 := Int.emod_lt_of_pos (i : Int) hx
    rw [if_pos h0, if_pos h1, bring_eq _ 4097 (by omega) (by omega), Option.bind_some, if_pos (by omega), if_pos (by omega)]
    obtain ⟨v, hv⟩ : ∃ v, rd xs ((i : Int) % (xs.length : Int)) = v := ⟨_, rfl⟩
    rw [hv]
    have e2 := w64 (n := v % 4097 - 2048) (by omega) (by omega)
    rw [e2]
    refine ⟨_, rfl, by simp, set_ins hob _ ?_⟩
    unfold In; omega
  · rw [if_neg hx]
    exact ⟨_, rfl, rfl, hob⟩
theorem nums_loop (xs : List Int) (d : Nat) : ∀ (out : List Int) (i : Nat), Ins out → out.length ≤ 1024 → i + d = out.length →
    ∃ r, zoetropelaw13_numbersOf.l0 (d + 1) xs out.length out i = some r ∧ r.length = out.length ∧ Ins r := by
  induction d with
  | zero =>
    intro out i hob ho h
    refine ⟨out, ?_, rfl, hob⟩
    rw [zoetropelaw13_numbersOf.l0, if_neg (by omega)]
  | succ d ih =>
    intro out i hob ho h
    obtain ⟨out', e, hl, hb⟩ := nums_round (d + 1) xs out i hob (by omega) ho
    obtain ⟨r, h1, h2, h3⟩ := ih out' (i + 1) hb (by omega) (by omega)
    rw [hl] at h1
    exact ⟨r, e.trans h1, by omega, h3⟩
theorem nums_any (xs : List Int) (n : Nat) (hn : n ≤ 1024) : ∃ k r, zoetropelaw13_numbersOf.f k xs n = some r ∧ r.length = n ∧ Ins r := by
  obtain ⟨r, h1, h2, h3⟩ := nums_loop xs n (List.replicate n 0) 0 (fun x hx => by rw [List.eq_of_mem_replicate hx]; unfold In; omega) (by simpa using hn) (by simp)
  rw [List.length_replicate] at h1 h2
  refine ⟨n + 1, r, ?_, h2, h3⟩
  unfold zoetropelaw13_numbersOf.f
  simp only [Int.toNat_natCast]
  rw [if_pos (by omega), if_pos (by omega)]
  exact h1

/-- The contrary numbers. -/
def negl (xs : List Int) : List Int := xs.map fun x => -x
theorem negl_length (xs : List Int) : (negl xs).length = xs.length := by simp [negl]
theorem negl_get (xs : List Int) (j : Nat) : (negl xs).getD j 0 = -(xs.getD j 0) := by
  unfold negl
  rw [List.getD_eq_getElem?_getD, List.getD_eq_getElem?_getD, List.getElem?_map]
  cases xs[j]? <;> simp
theorem negl_ins {xs : List Int} (h : Ins xs) : Ins (negl xs) := fun x hx => by
  unfold negl at hx
  obtain ⟨y, hy, rfl⟩ := List.mem_map.1 hx
  have := h y hy
  unfold In at this ⊢
  omega
theorem zeros_ins (n : Nat) : Ins (List.replicate n 0) := fun x hx => by rw [List.eq_of_mem_replicate hx]; unfold In; omega
theorem pr_ok (bs xs : List Int) (al : Int) (hn : bs.length ≤ 1024) (hu : xs.length = bs.length) (hi : Ins xs) (h0 : -16 ≤ al) (h1 : al ≤ 16) : prErr bs xs al = 0 ∧ prAns bs xs al = prs bs xs al bs.length := by
  have h := prOk_iff.2 ⟨hn, hu, hi, h0, h1⟩
  unfold prErr prAns
  rw [h]
  exact ⟨rfl, rfl⟩
theorem prs_neg (bs xs : List Int) (al : Int) (n : Nat) : prs bs (negl xs) (-al) n = prs bs xs al n := by
  unfold prs
  apply List.map_congr_left
  intro j _
  unfold pv
  rw [negl_get, Int.neg_mul_neg]
theorem pv_base {bs : List Int} (h : Bytes bs) (j : Nat) : min (max (bs.getD j 0 + ptn 0) 0) 255 = bs.getD j 0 := by
  have hb := getD_byte h j
  have : ptn 0 = 0 := by decide
  rw [this]; omega
theorem prs_base {bs : List Int} (h : Bytes bs) (xs : List Int) (al : Int) (hz : ∀ j, al * xs.getD j 0 = 0) : prs bs xs al bs.length = bs := by
  unfold prs
  apply List.ext_getElem
  · simp
  · intro i h1 h2
    rw [List.getElem_map, List.getElem_range]
    unfold pv
    rw [hz, pv_base h, List.getD_eq_getElem?_getD, List.getElem?_eq_getElem h2]; rfl
theorem prs_zero {bs : List Int} (h : Bytes bs) (xs : List Int) : prs bs xs 0 bs.length = bs := prs_base h xs 0 (fun j => by rw [Int.zero_mul])
theorem prs_noughts {bs : List Int} (h : Bytes bs) (n : Nat) (al : Int) : prs bs (List.replicate n 0) al bs.length = bs := prs_base h _ al (fun j => by
  have : (List.replicate n (0 : Int)).getD j 0 = 0 := by
    rw [List.getD_eq_getElem?_getD]
    rcases Nat.lt_or_ge j n with hj | hj
    · rw [List.getElem?_replicate, if_pos hj]; rfl
    · rw [List.getElem?_eq_none (by simpa using hj)]; rfl
  rw [this, Int.mul_zero])
theorem prs_get (bs xs : List Int) (al : Int) (n i : Nat) (h : i < n) : (prs bs xs al n).getD i 0 = pv bs xs al i := by
  unfold prs
  rw [List.getD_eq_getElem?_getD, List.getElem?_map, List.getElem?_range h]; rfl
theorem ptn_neg (p : Int) : ptn (-p) = -ptn p := by unfold ptn; repeat' split <;> omega
theorem ptn_sign (p : Int) : (p < 0 → ptn p ≤ 0) ∧ (0 < p → 0 ≤ ptn p) := by unfold ptn; constructor <;> intro h <;> split <;> omega
/-- What the statement asks of one place. -/
theorem place {bs : List Int} (h : Bytes bs) (xs : List Int) (al : Int) (i : Nat) (b A C p : Int) (hb : bs.getD i 0 = b) (hA : pv bs xs al i = A) (hC : pv bs xs (-al) i = C) (hp : al * xs.getD i 0 = p) :
    (0 ≤ b ∧ b ≤ 255) ∧ (0 ≤ A ∧ A ≤ 255) ∧ (0 ≤ C ∧ C ≤ 255) ∧ (A > 0 → A < 255 → C > 0 → C < 255 → A - b = b - C) ∧ (A - b > 0 → ¬ p < 0) ∧ (A - b < 0 → ¬ p > 0) := by
  have h1 := getD_byte h i
  unfold pv at hA hC
  rw [Int.neg_mul, hp, ptn_neg] at hC
  rw [hp] at hA
  rw [hb] at hA hC h1
  have h2 := ptn_sign p
  refine ⟨h1, by omega, by omega, by omega, fun ha hn => ?_, fun ha hn => ?_⟩
  · have := h2.1 hn; omega
  · have := h2.2 hn; omega
/-- The first i are filled in. -/
def nf (xs : List Int) (n i : Nat) : List Int := (List.range n).map fun j => if j < i then -(xs.getD j 0) else 0
theorem nf_length (xs : List Int) (n i : Nat) : (nf xs n i).length = n := by simp [nf]
theorem nf_zero (xs : List Int) (n : Nat) : nf xs n 0 = List.replicate n 0 := by
  unfold nf; apply List.ext_getElem <;> simp
theorem nf_all (xs : List Int) : nf xs xs.length xs.length = negl xs := by
  unfold nf negl
  apply List.ext_getElem
  · simp
  · intro i h1 h2
    simp only [List.getElem_map, List.getElem_range]
    have h : i < xs.length := by simpa using h2
    rw [if_pos h, List.getD_eq_getElem?_getD, List.getElem?_eq_getElem h]; rfl
theorem nf_set (xs : List Int) (n i : Nat) : (nf xs n i).set i (-(xs.getD i 0)) = nf xs n (i + 1) := by
  unfold nf
  apply List.ext_getElem
  · simp
  · intro j h1 h2
    rw [List.getElem_set]
    simp only [List.getElem_map, List.getElem_range]
    by_cases hij : i = j
    · subst hij; rw [if_pos rfl, if_pos (by omega)]
    · rw [if_neg hij]
      by_cases hj : j < i
      · rw [if_pos hj, if_pos (by omega)]
      · rw [if_neg hj, if_neg (by omega)]
end Go.Proofs.Ytnlhciebkcafeaa.Cs
