/- Layer 13: what the printed functions of the reference and of the helpers come to. No program. -/
import Derived.Test.YtnlhciebkcafeaaPCflAcsx1
import Derived.Test.YtnlhciebkcafeaaPCflAcsx2
import Derived.Test.YtnlhciebkcafeaaCf
namespace Go.Proofs.Ytnlhciebkcafeaa.Cp
open Go.RowKit Go.Proofs.Ytnlhciebkcafeaa.PCflAcs Go.Proofs.YtnlhciebkcafeaaW.PrintWords Go.Proofs.YtnlhciebkcafeaaW.PrintLast Go.Proofs.YtnlhciebkcafeaaW.PrintMore Go.Proofs.Ytnlhciebkcafeaa.Cf

theorem w64 {n : Int} (h0 : -9223372036854775808 ≤ n) (h1 : n ≤ 9223372036854775807) : wrap64 n = n := by unfold wrap64; omega
/-- A block's side. -/
def sideB (n : Int) : Bool := decide (n % 4 = 0 ∧ 4 ≤ n ∧ n ≤ 32)
theorem sideB_iff {n : Int} : sideB n = true ↔ (n % 4 = 0 ∧ 4 ≤ n ∧ n ≤ 32) := by simp [sideB]
theorem side_eq (n : Int) (h : n ≤ 9223372036854775807) : cfl_side.f n = some (sideB n) := by
  unfold cfl_side.f
  by_cases h4 : 4 ≤ n
  · have hk : ∀ n : Int, 0 ≤ n → n < 2 ^ 63 → IntKind.i64.wrap n = n := fun n a b => by rw [IntKind.wrap_i64]; omega
    have hb := Go.bits_mask .i64 63 (by decide) hk 2 (by decide) n (by omega) (by omega)
    have hb' : Go.bits .and .i64 n 3 = n % 4 := by simpa using hb
    rw [hb']
    unfold sideB
    repeat' split
    all_goals (congr 1; rw [Bool.eq_iff_iff]; simp only [decide_eq_true_eq, Bool.false_eq_true, false_iff]; omega)
  · have : sideB n = false := by unfold sideB; simp; omega
    rw [this]
    repeat' split
    all_goals first | rfl | omega
theorem rside_eq (n : Int) : zoetroperef13_side.f n = some (sideB n) := by
  unfold zoetroperef13_side.f
  by_cases h4 : 4 ≤ n
  · rw [Int.tmod_eq_emod_of_nonneg (by omega)]
    unfold sideB
    repeat' split
    all_goals (congr 1; rw [Bool.eq_iff_iff]; simp only [decide_eq_true_eq, Bool.false_eq_true, false_iff]; omega)
  · have : sideB n = false := by unfold sideB; simp; omega
    rw [this]
    repeat' split
    all_goals first | rfl | omega

theorem rd_nat (xs : List Int) (j : Nat) : rd xs (j : Int) = xs.getD j 0 := rfl

/-- Where a place's samples begin, as the reference reckons it. -/
theorem at_code (W i q r : Nat) (hq : i / W = q) (hr : i % W = r) (h0 : q * (4 * W) ≤ 4096) (h1 : q ≤ 1024) (h2 : r ≤ 32) :
    wrap64 ((wrap64 ((wrap64 ((wrap64 (Int.tdiv (i : Int) W)) * 4)) * W)) + (wrap64 ((Int.tmod (i : Int) W) * 2))) = ((q * (4 * W) + r * 2 : Nat) : Int) := by
  rw [Int.tdiv_eq_ediv_of_nonneg (by omega), Int.tmod_eq_emod_of_nonneg (by omega), ← Int.natCast_ediv, ← Int.natCast_emod, hq, hr]
  clear hq hr
  rw [w64 (n := (q : Int)) (by omega) (by omega), w64 (n := (q : Int) * 4) (by omega) (by omega)]
  have e : (q : Int) * 4 * (W : Int) = ((q * (4 * W) : Nat) : Int) := by rw [Int.mul_assoc, Int.natCast_mul, Int.natCast_mul]; rfl
  rw [e, w64 (n := ((q * (4 * W) : Nat) : Int)) (by omega) (by omega), w64 (n := (r : Int) * 2) (by omega) (by omega), w64 (by omega) (by omega)]
  generalize q * (4 * W) = m
  omega

theorem c_one (A : Nat) (h : A ≤ 100000) : wrap64 ((A : Int) + 1) = ((A + 1 : Nat) : Int) := by unfold wrap64; omega
theorem c_two (A W : Nat) (h : A ≤ 100000) (hW : W ≤ 32) : wrap64 ((A : Int) + wrap64 (2 * (W : Int))) = ((A + 2 * W : Nat) : Int) := by
  have e : wrap64 (2 * (W : Int)) = 2 * (W : Int) := by unfold wrap64; omega
  simp only [e]
  clear e
  unfold wrap64; omega
theorem c_area (W H : Nat) (h : W * H ≤ 1024) : wrap64 ((W : Int) * (H : Int)) = ((W * H : Nat) : Int) := by
  have e : (W : Int) * (H : Int) = ((W * H : Nat) : Int) := by rw [Int.natCast_mul]
  simp only [e]
  clear e
  generalize W * H = m at *
  unfold wrap64; omega
theorem c_sum (p0 p1 p2 p3 s : Int) (h0 : 0 ≤ p0 ∧ p0 ≤ 255) (h1 : 0 ≤ p1 ∧ p1 ≤ 255) (h2 : 0 ≤ p2 ∧ p2 ≤ 255) (h3 : 0 ≤ p3 ∧ p3 ≤ 255) (hs0 : 0 ≤ s) (hs1 : s ≤ 4200000) :
    wrap64 (2 * (wrap64 ((wrap64 ((wrap64 ((wrap64 p0) + (wrap64 p1))) + (wrap64 p2))) + (wrap64 p3)))) = 2 * (p0 + p1 + p2 + p3) ∧ wrap64 (s + 2 * (p0 + p1 + p2 + p3)) = s + 2 * (p0 + p1 + p2 + p3) := by
  have g0 := Aside0.mk (w64 (n := p0) (by omega) (by omega))
  have g1 := Aside0.mk (w64 (n := p1) (by omega) (by omega))
  have g2 := Aside0.mk (w64 (n := p2) (by omega) (by omega))
  have g3 := Aside0.mk (w64 (n := p3) (by omega) (by omega))
  have g4 := Aside0.mk (w64 (n := p0 + p1) (by omega) (by omega))
  have g5 := Aside0.mk (w64 (n := p0 + p1 + p2) (by omega) (by omega))
  have g6 := Aside0.mk (w64 (n := p0 + p1 + p2 + p3) (by omega) (by omega))
  have g7 := Aside0.mk (w64 (n := 2 * (p0 + p1 + p2 + p3)) (by omega) (by omega))
  have g8 := Aside0.mk (w64 (n := s + 2 * (p0 + p1 + p2 + p3)) (by omega) (by omega))
  simp only [g0.out, g1.out, g2.out, g3.out, g4.out, g5.out, g6.out, g7.out, g8.out, and_self]

set_option maxHeartbeats 1000000 in
/-- One place of the reference's first loop. -/
theorem ref_round (k : Nat) (xs out : List Int) (W H i : Nat) (sum : Int) (hby : Bytes xs) (hW : 4 ≤ W) (hW' : W ≤ 32) (hH : H ≤ 32) (hlen : xs.length = 4 * W * H) (hi : i < W * H) (ho : out.length ≤ 1024) (hs0 : 0 ≤ sum) (hs1 : sum ≤ 4200000) :
    zoetroperef13_Ac.l0 (k + 1) xs W H out sum i = zoetroperef13_Ac.l0 k xs W H (out ++ [v2 xs W i]) (sum + v2 xs W i) (i + 1 : Nat) := by
  have hWH : W * H ≤ 1024 := by have := Nat.mul_le_mul hW' hH; omega
  have hq1 : i / W + 1 ≤ H := by
    have := (Nat.div_lt_iff_lt_mul (show 0 < W by omega)).2 (show i < H * W by rw [Nat.mul_comm]; exact hi)
    omega
  have hr1 : i % W < W := Nat.mod_lt _ (by omega)
  have hv := v2_in hby W i
  have hv2 : v2 xs W i = 2 * (xs.getD (i / W * (4 * W) + i % W * 2) 0 + xs.getD (i / W * (4 * W) + i % W * 2 + 1) 0 + xs.getD (i / W * (4 * W) + i % W * 2 + 2 * W) 0 + xs.getD (i / W * (4 * W) + i % W * 2 + 2 * W + 1) 0) := by unfold v2; rfl
  obtain ⟨q, hq⟩ : ∃ q, i / W = q := ⟨_, rfl⟩
  obtain ⟨r, hr⟩ : ∃ r, i % W = r := ⟨_, rfl⟩
  rw [hq] at hq1 hv2
  rw [hr] at hr1 hv2
  have hm := Nat.mul_le_mul_right (4 * W) hq1
  have hl : H * (4 * W) = xs.length := by rw [hlen, Nat.mul_comm]
  rw [Nat.add_mul, Nat.one_mul, hl] at hm
  have hx : xs.length ≤ 4096 := by rw [hlen, Nat.mul_assoc]; omega
  have e0 := at_code W i q r hq hr (by omega) (by omega) (by omega)
  clear hq hr hl hlen
  obtain ⟨A, hA⟩ : ∃ A, q * (4 * W) + r * 2 = A := ⟨_, rfl⟩
  rw [hA] at e0 hv2
  have e0' := Aside0.mk e0
  clear e0
  have hA3 : A + 2 * W + 1 < xs.length := by omega
  clear hA hm
  have b0 := getD_byte hby A
  have b1 := getD_byte hby (A + 1)
  have b2 := getD_byte hby (A + 2 * W)
  have b3 := getD_byte hby (A + 2 * W + 1)
  have eWH := Aside0.mk (c_area W H hWH)
  have e1 := Aside0.mk (c_one A (by omega))
  have e2 := Aside0.mk (c_two A W (by omega) hW')
  have e3 := Aside0.mk (c_one (A + 2 * W) (by omega))
  have e4 := Aside0.mk (c_sum _ _ _ _ sum b0 b1 b2 b3 hs0 hs1)
  have e9 := Aside0.mk (c_one i (by omega))
  simp only [zoetroperef13_Ac.l0]
  simp only [eWH.out, e0'.out, e1.out, e2.out, e3.out, rd_nat, e4.out.1, e4.out.2, e9.out]
  rw [if_pos (by omega), if_neg (by omega), if_pos (by omega), if_pos (by omega), if_pos (by omega), if_pos (by omega), if_pos (by omega), if_pos (by omega), if_pos (by omega), if_pos (by omega), if_pos (by omega), hv2]
theorem ref_loop (xs : List Int) (W H : Nat) (hby : Bytes xs) (hW : 4 ≤ W) (hW' : W ≤ 32) (hH : H ≤ 32) (hlen : xs.length = 4 * W * H) (d : Nat) : ∀ (k i : Nat), i + d = W * H →
    zoetroperef13_Ac.l0 (k + d) xs W H (vs xs W i) (tot xs W H i) i = zoetroperef13_Ac.l0 k xs W H (vs xs W (W * H)) (tot xs W H (W * H)) (W * H : Nat) := by
  have hWH : W * H ≤ 1024 := by have := Nat.mul_le_mul hW' hH; omega
  induction d with
  | zero => intro k i h; rw [← h]; rfl
  | succ d ih =>
    intro k i h
    have ht := tot_in hby W H i
    rw [show k + (d + 1) = (k + d) + 1 by omega, ref_round (k + d) xs _ W H i _ hby hW hW' hH hlen (by omega) (by rw [vs_length]; omega) ht.1 (by omega), ← vs_succ, ← tot_succ]
    exact ih k (i + 1) (by omega)
theorem ref_mean_round (k : Nat) (xs : List Int) (W H i : Nat) (hby : Bytes xs) (hW' : W ≤ 32) (hH : H ≤ 32) (hi : i < W * H) :
    zoetroperef13_Ac.l1 (k + 1) W H (upd xs W H i) (mean xs W H) i = zoetroperef13_Ac.l1 k W H (upd xs W H (i + 1)) (mean xs W H) (i + 1 : Nat) := by
  have hWH : W * H ≤ 1024 := by have := Nat.mul_le_mul hW' hH; omega
  have hv := v2_in hby W i
  have hm := mean_in hby W H
  have eWH := Aside0.mk (c_area W H hWH)
  have e1 := Aside0.mk (w64 (n := v2 xs W i - mean xs W H) (by omega) (by omega))
  have e2 := Aside0.mk (c_one i (by omega))
  simp only [zoetroperef13_Ac.l1]
  simp only [eWH.out, rd_nat, upd_get xs W H i hi, Int.toNat_natCast, e1.out, upd_set xs W H i hi, e2.out]
  rw [if_pos (by omega), if_pos (by omega), if_pos (by rw [upd_length]; omega)]
theorem ref_mean_loop (xs : List Int) (W H : Nat) (hby : Bytes xs) (hW' : W ≤ 32) (hH : H ≤ 32) (d : Nat) : ∀ (k i : Nat), i + d = W * H → zoetroperef13_Ac.l1 (k + d + 1) W H (upd xs W H i) (mean xs W H) i = some (acs xs W H, 0) := by
  have hWH : W * H ≤ 1024 := by have := Nat.mul_le_mul hW' hH; omega
  have eWH := Aside0.mk (c_area W H hWH)
  induction d with
  | zero =>
    intro k i h
    obtain rfl : i = W * H := by omega
    simp only [zoetroperef13_Ac.l1]
    simp only [eWH.out]
    rw [if_neg (by omega), upd_all]
  | succ d ih =>
    intro k i h
    rw [show k + (d + 1) + 1 = (k + d + 1) + 1 by omega, ref_mean_round _ xs W H i hby hW' hH (by omega)]
    exact ih k (i + 1) (by omega)

theorem ref_end (k : Nat) (xs : List Int) (W H : Nat) (hby : Bytes xs) (hW : W ≤ 32) (hH : H ≤ 32) (hpos : 1 ≤ W * H) :
    zoetroperef13_Ac.l0 (k + 1) xs W H (vs xs W (W * H)) (tot xs W H (W * H)) (W * H : Nat) = zoetroperef13_Ac.l1 k W H (upd xs W H 0) (mean xs W H) 0 := by
  have hWH : W * H ≤ 1024 := by have := Nat.mul_le_mul hW hH; omega
  have eWH := Aside0.mk (c_area W H hWH)
  have ht := tot_in hby W H (W * H)
  have hm := mean_in hby W H
  have em : Aside0 (wrap64 (mean xs W H) = mean xs W H) := ⟨w64 (by omega) (by omega)⟩
  have hd : tot xs W H (W * H) / ((W * H : Nat) : Int) = mean xs W H := rfl
  simp only [zoetroperef13_Ac.l0]
  simp only [eWH.out, Int.tdiv_eq_ediv_of_nonneg ht.1, hd, em.out, upd_zero]
  rw [if_neg (by omega), if_neg (by omega)]
theorem ref_start (k : Nat) (xs : List Int) (W H : Nat) : zoetroperef13_Ac.j0 (k + 1) xs W H false = zoetroperef13_Ac.l0 k xs W H [] (wrap64 (Int.tdiv (wrap64 ((W : Int) * (H : Int))) 2)) 0 := by
  simp only [zoetroperef13_Ac.j0, Bool.false_eq_true, if_false]

/-- May Ac be asked? -/
def acOk (xs : List Int) (w h : Int) : Bool := sideB w && (sideB h && decide ((xs.length : Int) = 4 * w * h))
theorem acOk_nat {xs : List Int} {w h : Int} (ho : acOk xs w h = true) : ∃ W H : Nat, w = W ∧ h = H ∧ 4 ≤ W ∧ W ≤ 32 ∧ W % 4 = 0 ∧ 4 ≤ H ∧ H ≤ 32 ∧ xs.length = 4 * W * H := by
  unfold acOk at ho
  simp only [Bool.and_eq_true, sideB_iff, decide_eq_true_eq] at ho
  obtain ⟨⟨a1, a2, a3⟩, ⟨b1, b2, b3⟩, hl⟩ := ho
  obtain ⟨W, rfl⟩ := Int.eq_ofNat_of_zero_le (show 0 ≤ w by omega)
  obtain ⟨H, rfl⟩ := Int.eq_ofNat_of_zero_le (show 0 ≤ h by omega)
  exact ⟨W, H, rfl, rfl, by omega, by omega, by omega, by omega, by omega, by exact_mod_cast hl⟩
theorem c_len (w h : Int) (hw0 : 4 ≤ w) (hw : w ≤ 32) (hh0 : 4 ≤ h) (hh : h ≤ 32) : wrap64 ((wrap64 (4 * w)) * h) = 4 * w * h := by
  have p0 : 0 ≤ 4 * w * h := Int.mul_nonneg (by omega) (by omega)
  have p1 : 4 * w * h ≤ 128 * 32 := Int.mul_le_mul (by omega) hh (by omega) (by omega)
  have e4 : Aside0 (wrap64 (4 * w) = 4 * w) := ⟨w64 (by omega) (by omega)⟩
  have e5 : Aside0 (wrap64 (4 * w * h) = 4 * w * h) := ⟨w64 (by omega) (by omega)⟩
  simp only [e4.out, e5.out]
theorem ref_ok (xs : List Int) (W H : Nat) (hby : Bytes xs) (hs : acOk xs W H = true) : ∃ k, zoetroperef13_Ac.f k xs W H = some (acs xs W H, 0) := by
  obtain ⟨W', H', e1, e2, hW, hW', _, hH4, hH, hlen⟩ := acOk_nat hs
  obtain rfl : W = W' := by omega
  obtain rfl : H = H' := by omega
  have hWH : W * H ≤ 1024 := by have := Nat.mul_le_mul hW' hH; omega
  have hWH0 : 16 ≤ W * H := by have := Nat.mul_le_mul hW hH4; omega
  unfold acOk at hs
  simp only [Bool.and_eq_true, decide_eq_true_eq] at hs
  refine ⟨0 + 1 + W * H + 1 + W * H + 1, ?_⟩
  generalize 0 = n
  unfold zoetroperef13_Ac.f
  have e4 := Aside0.mk (c_len (W : Int) (H : Int) (by omega) (by omega) (by omega) (by omega))
  rw [rside_eq, rside_eq, hs.1, hs.2.1, Option.bind_some, if_pos rfl, Option.bind_some, if_pos rfl, e4.out, ← hs.2.2, bne_self_eq_false]
  rw [ref_start]
  have eWH := Aside0.mk (c_area W H hWH)
  have hv0 : ([] : List Int) = vs xs W 0 := rfl
  have ht0 : wrap64 (Int.tdiv (wrap64 ((W : Int) * (H : Int))) 2) = tot xs W H 0 := by
    simp only [eWH.out]
    rw [Int.tdiv_eq_ediv_of_nonneg (by omega)]
    have e : Aside0 (wrap64 (((W * H : Nat) : Int) / 2) = ((W * H : Nat) : Int) / 2) := ⟨w64 (by omega) (by omega)⟩
    simp only [e.out]
    unfold tot vs; rw [List.range_zero, List.map_nil, List.sum_nil, Int.add_zero]; rfl
  rw [hv0, ht0]
  have hl := ref_loop xs W H hby hW hW' hH hlen (W * H) (n + 1 + W * H + 1) 0 (by omega)
  have hm := ref_mean_loop xs W H hby hW' hH (W * H) n 0 (by omega)
  rw [show ((0 : Nat) : Int) = 0 from rfl] at hl hm
  rw [hl, ref_end _ xs W H hby hW' hH (by omega), show n + 1 + W * H = n + W * H + 1 by omega]
  exact hm
theorem ref_no (xs : List Int) (w h : Int) (hs : acOk xs w h = false) : ∃ k, zoetroperef13_Ac.f k xs w h = some ([], 2) := by
  refine ⟨0 + 1, ?_⟩
  generalize 0 = n
  have hj : zoetroperef13_Ac.j0 (n + 1) xs w h true = some ([], 2) := by simp only [zoetroperef13_Ac.j0, if_true]
  unfold zoetroperef13_Ac.f
  rw [rside_eq, Option.bind_some]
  cases h1 : sideB w with
  | false => rw [if_neg (by decide)]; exact hj
  | true =>
    rw [if_pos rfl, rside_eq, Option.bind_some]
    cases h2 : sideB h with
    | false => rw [if_neg (by decide)]; exact hj
    | true =>
      rw [if_pos rfl]
      unfold acOk at hs
      rw [h1, h2] at hs
      simp only [Bool.true_and, decide_eq_false_iff_not] at hs
      have a := sideB_iff.1 h1
      have b := sideB_iff.1 h2
      rw [c_len w h a.2.1 a.2.2 b.2.1 b.2.2, bne_iff_ne.2 hs]
      exact hj

/-- Two equal lists, compared. -/
theorem eqi_end (k : Nat) (xs : List Int) (i : Nat) (h : xs.length ≤ i) : zoetroperef00_EqInts.l0 (k + 1) xs xs i = some true := by
  simp only [zoetroperef00_EqInts.l0]; rw [if_neg (by omega)]
theorem eqi_one (k : Nat) (xs : List Int) (i : Nat) (hx : xs.length ≤ 140737488351232) (h : i < xs.length) : zoetroperef00_EqInts.l0 (k + 1) xs xs i = zoetroperef00_EqInts.l0 k xs xs (i + 1 : Nat) := by
  have e := Aside0.mk (w64 (n := (i : Int) + 1) (by omega) (by omega))
  simp only [zoetroperef00_EqInts.l0]
  rw [if_pos (by omega), if_pos (by omega), if_pos trivial, e.out, if_pos (by omega)]
  rfl
theorem eqi_from (xs : List Int) (hx : xs.length ≤ 140737488351232) (d : Nat) : ∀ (k i : Nat), i + d = xs.length → zoetroperef00_EqInts.l0 (k + d + 1) xs xs i = some true := by
  induction d with
  | zero => intro k i h; exact eqi_end k xs i (by omega)
  | succ d ih =>
    intro k i h
    rw [show k + (d + 1) + 1 = (k + d + 1) + 1 by omega, eqi_one _ xs i hx (by omega)]
    exact ih k (i + 1) (by omega)
theorem eqi_self (xs : List Int) (hx : xs.length ≤ 140737488351232) : zoetroperef00_EqInts.f (xs.length + 1) xs xs = some true := by
  unfold zoetroperef00_EqInts.f
  rw [if_pos rfl]
  have := eqi_from xs hx xs.length 0 0 (by omega)
  rw [Nat.zero_add] at this
  exact this
theorem eqb_end (k : Nat) (xs : List Int) (i : Nat) (h : xs.length ≤ i) : zoetroperef00_EqBytes.l0 (k + 1) xs xs i = some true := by
  simp only [zoetroperef00_EqBytes.l0]; rw [if_neg (by omega)]
theorem eqb_one (k : Nat) (xs : List Int) (i : Nat) (hx : xs.length ≤ 140737488351232) (h : i < xs.length) : zoetroperef00_EqBytes.l0 (k + 1) xs xs i = zoetroperef00_EqBytes.l0 k xs xs (i + 1 : Nat) := by
  have e := Aside0.mk (w64 (n := (i : Int) + 1) (by omega) (by omega))
  simp only [zoetroperef00_EqBytes.l0]
  rw [if_pos (by omega), if_pos (by omega), if_pos trivial, e.out, if_pos (by omega)]
  rfl
theorem eqb_from (xs : List Int) (hx : xs.length ≤ 140737488351232) (d : Nat) : ∀ (k i : Nat), i + d = xs.length → zoetroperef00_EqBytes.l0 (k + d + 1) xs xs i = some true := by
  induction d with
  | zero => intro k i h; exact eqb_end k xs i (by omega)
  | succ d ih =>
    intro k i h
    rw [show k + (d + 1) + 1 = (k + d + 1) + 1 by omega, eqb_one _ xs i hx (by omega)]
    exact ih k (i + 1) (by omega)
theorem eqb_self (xs : List Int) (hx : xs.length ≤ 140737488351232) : zoetroperef00_EqBytes.f (xs.length + 1) xs xs = some true := by
  unfold zoetroperef00_EqBytes.f
  rw [if_pos rfl]
  have := eqb_from xs hx xs.length 0 0 (by omega)
  rw [Nat.zero_add] at this
  exact this

end Go.Proofs.Ytnlhciebkcafeaa.Cp
