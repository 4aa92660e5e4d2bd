/- Plain facts for CflMean, and what its printed helpers come to. -/
import Derived.Test.YtnlhciebkcafeaaPCflMeanx1
import Derived.Test.YtnlhciebkcafeaaCf
namespace Go.Proofs.Ytnlhciebkcafeaa.Cm
open Go.RowKit Go.Proofs.Ytnlhciebkcafeaa.PCflMean Go.Proofs.YtnlhciebkcafeaaW.PrintWords Go.Proofs.YtnlhciebkcafeaaW.PrintLast Go.Proofs.YtnlhciebkcafeaaW.PrintMore Go.Proofs.Ytnlhciebkcafeaa.Cf

theorem w64 {n : Int} (h0 : -9223372036854775808 ≤ n) (h1 : n ≤ 9223372036854775807) : wrap64 n = n := by unfold wrap64; omega
theorem rd_nat (xs : List Int) (j : Nat) : rd xs (j : Int) = xs.getD j 0 := Eq.trans rfl rfl
/-- Any number brought to 0 .. n-1. -/
theorem bring_eq (a n : Int) (hn : 0 < n) (hn' : n ≤ 100000) : zoetroperef00_Bring.f a n = some (a % n) := by
  unfold zoetroperef00_Bring.f
  rw [if_neg (by omega), if_neg (by omega)]
  have h0 := Int.emod_nonneg a (show n ≠ 0 by omega)
  have h1 := Int.emod_lt_of_pos a hn
  have ht : Int.tmod a n = if 0 ≤ a ∨ n ∣ a then a % n else a % n - n := by
    rw [Int.tmod_eq_emod]; split <;> omega
  rw [ht]
  clear ht
  by_cases hc : 0 ≤ a ∨ n ∣ a
  · rw [if_pos hc, if_neg (by omega)]
  · rw [if_neg hc, if_pos (by omega)]
    congr 1
    have e : a % n - n + n = a % n := by omega
    rw [e]
    unfold wrap64; omega
theorem abs_eq (p : Int) (h0 : -100000000 ≤ p) : zoetroperef00_Abs.f p = some (if p < 0 then -p else p) := by
  unfold zoetroperef00_Abs.f
  by_cases hp : p < 0
  · rw [if_pos hp, if_pos hp, w64 (by omega) (by omega)]
  · rw [if_neg hp, if_neg hp]

theorem set_bytes {xs : List Int} (h : Bytes xs) (i : Nat) {b : Int} (hb : 0 ≤ b ∧ b ≤ 255) : Bytes (xs.set i b) := fun x hx => by
  rcases List.mem_or_eq_of_mem_set hx with h1 | rfl
  · exact h x h1
  · exact hb
set_option maxHeartbeats 1000000 in
theorem luma_round (k : Nat) (xs out : List Int) (i : Nat) (hby : Bytes xs) (hob : Bytes out) (hi : i < out.length) (ho : out.length ≤ 4096) :
    ∃ out', zoetropelaw13_luma.l0 (k + 1) xs out i = zoetropelaw13_luma.l0 k xs out' (i + 1 : Nat) ∧ out'.length = out.length ∧ Bytes out' := by
  have e1 := Aside0.mk (w64 (n := (i : Int) + 1) (by omega) (by omega))
  have e2 := Aside0.mk (w64 (n := 5 * (i : Int)) (by omega) (by omega))
  rw [zoetropelaw13_luma.l0]
  simp only [e1.out, e2.out, Option.bind_some]
  rw [if_pos (by omega), if_pos (by omega)]
  have hs := set_bytes hob i (b := 5 * (i : Int) % 256) (by omega)
  by_cases hx : (xs.length : Int) > 0
  · rw [if_pos hx, if_neg (by omega), Int.tmod_eq_emod_of_nonneg (by omega)]
    have h0 := Int.emod_nonneg (i : Int) (show (xs.length : Int) ≠ 0 by omega)
    have h1 := Int.emod_lt_of_pos (i : Int) hx
    rw [if_pos h0, if_pos h1]
    refine ⟨_, rfl, by simp, ?_⟩
    exact set_bytes hs _ (getD_byte hby _)
  · rw [if_neg hx]
    exact ⟨_, rfl, by simp, hs⟩
theorem luma_loop (xs : List Int) (hby : Bytes xs) (d : Nat) : ∀ (out : List Int) (i : Nat), Bytes out → out.length ≤ 4096 → i + d = out.length →
    ∃ r, zoetropelaw13_luma.l0 (d + 1) xs out i = some r ∧ r.length = out.length ∧ Bytes r := by
  induction d with
  | zero =>
    intro out i hob ho h
    refine ⟨out, ?_, rfl, hob⟩
    rw [zoetropelaw13_luma.l0, if_neg (by omega)]
  | succ d ih =>
    intro out i hob ho h
    obtain ⟨out', e, hl, hb⟩ := luma_round (d + 1) xs out i hby hob (by omega) ho
    obtain ⟨r, h1, h2, h3⟩ := ih out' (i + 1) hb (by omega) (by omega)
    exact ⟨r, e.trans h1, by omega, h3⟩
theorem luma_any (xs : List Int) (W H : Nat) (hby : Bytes xs) (hn : 4 * W * H ≤ 4096) (hw : W ≤ 32) : ∃ k r, zoetropelaw13_luma.f k xs W H = some r ∧ r.length = 4 * W * H ∧ Bytes r := by
  have e0 : Aside0 (wrap64 (4 * (W : Int)) = ((4 * W : Nat) : Int)) := ⟨by rw [w64 (by omega) (by omega)]; rfl⟩
  have e1 : ((4 * W : Nat) : Int) * (H : Int) = ((4 * W * H : Nat) : Int) := by rw [← Int.natCast_mul]
  have e2 : Aside0 (wrap64 ((4 * W * H : Nat) : Int) = ((4 * W * H : Nat) : Int)) := ⟨w64 (by omega) (by omega)⟩
  obtain ⟨r, h1, h2, h3⟩ := luma_loop xs hby (4 * W * H) (List.replicate (4 * W * H) 0) 0 (fun x hx => by rw [List.eq_of_mem_replicate hx]; omega) (by rw [List.length_replicate]; exact hn) (by simp)
  refine ⟨4 * W * H + 1, r, ?_, by simpa using h2, h3⟩
  unfold zoetropelaw13_luma.f
  simp only [e0.out, e1, e2.out, Int.toNat_natCast]
  rw [if_pos (by omega), if_pos (by omega)]
  exact h1

/-- The sum of the first i numbers. -/
def ps (xs : List Int) (i : Nat) : Int := (xs.take i).sum
theorem ps_succ (xs : List Int) (i : Nat) (h : i < xs.length) : ps xs (i + 1) = ps xs i + xs.getD i 0 := by
  unfold ps
  rw [List.take_succ_eq_append_getElem h, List.sum_append, List.getD_eq_getElem?_getD, List.getElem?_eq_getElem h]; simp
theorem sum_sub (l : List Int) (m : Int) : (l.map (· - m)).sum = l.sum - m * l.length := by
  induction l with
  | nil => simp
  | cons a t ih => simp only [List.map_cons, List.sum_cons, ih, List.length_cons]; rw [Int.natCast_add, Int.mul_add]; omega

theorem acs_get (xs : List Int) (W H i : Nat) (h : i < W * H) : (acs xs W H).getD i 0 = v2 xs W i - mean xs W H := by
  unfold acs vs
  rw [List.map_map, List.getD_eq_getElem?_getD, List.getElem?_map, List.getElem?_range h]; rfl
theorem mean_le {xs : List Int} (h : Bytes xs) (W H : Nat) (hp : 0 < W * H) : 0 ≤ mean xs W H ∧ mean xs W H ≤ 2040 := by
  refine ⟨(mean_in h W H).1, ?_⟩
  have ht := (tot_in h W H (W * H)).2
  unfold mean
  generalize W * H = n at *
  have : tot xs W H n / (n : Int) < 2041 := Int.ediv_lt_of_lt_mul (by omega) (by omega)
  omega
theorem acs_in {xs : List Int} (h : Bytes xs) (W H i : Nat) (hp : i < W * H) : -2040 ≤ (acs xs W H).getD i 0 ∧ (acs xs W H).getD i 0 ≤ 2040 := by
  rw [acs_get xs W H i hp]
  have h1 := v2_in h W i
  have h2 := mean_le h W H (by omega)
  omega
theorem acs_sum (xs : List Int) (W H : Nat) (hp : 0 < W * H) : -((W * H / 2 : Nat) : Int) ≤ (acs xs W H).sum ∧ (acs xs W H).sum ≤ ((W * H / 2 : Nat) : Int) := by
  have hs : (acs xs W H).sum = (vs xs W (W * H)).sum - mean xs W H * ((W * H : Nat) : Int) := by
    unfold acs; rw [sum_sub, vs_length]
  have ht : tot xs W H (W * H) = ((W * H / 2 : Nat) : Int) + (vs xs W (W * H)).sum := rfl
  have hm : mean xs W H = tot xs W H (W * H) / ((W * H : Nat) : Int) := rfl
  rw [hs, hm]
  generalize W * H = n at *
  generalize (vs xs W n).sum = S at *
  have h1 := Int.mul_ediv_add_emod (tot xs W H n) (n : Int)
  have h2 := Int.emod_nonneg (tot xs W H n) (show (n : Int) ≠ 0 by omega)
  have h3 := Int.emod_lt_of_pos (tot xs W H n) (show (0 : Int) < n by omega)
  rw [Int.mul_comm] at h1
  generalize tot xs W H n / (n : Int) * (n : Int) = q at *
  omega
theorem ps_in {xs : List Int} (h : Bytes xs) (W H i : Nat) (hi : i ≤ W * H) : -(2040 * (i : Int)) ≤ ps (acs xs W H) i ∧ ps (acs xs W H) i ≤ 2040 * i := by
  induction i with
  | zero => unfold ps; simp
  | succ i ih =>
    rw [ps_succ _ _ (by rw [acs_length]; omega)]
    have h1 := acs_in h W H i (by omega)
    have h2 := ih (by omega)
    omega
theorem ps_all (xs : List Int) (W H : Nat) : ps (acs xs W H) (W * H) = (acs xs W H).sum := by
  unfold ps; rw [List.take_of_length_le (by rw [acs_length]; omega)]

theorem idx (W H i : Nat) (hW : 0 < W) (hi : i < W * H) : i / W * (4 * W) + i % W * 2 + 2 * W + 1 < 4 * W * H := by
  have hq : i / W + 1 ≤ H := by
    have := (Nat.div_lt_iff_lt_mul hW).2 (show i < H * W by rw [Nat.mul_comm]; exact hi)
    omega
  have hr : i % W < W := Nat.mod_lt _ hW
  have hm := Nat.mul_le_mul_right (4 * W) hq
  rw [Nat.add_mul, Nat.one_mul, Nat.mul_comm H] at hm
  omega
/-- To each sample b more. -/
def addl (xs : List Int) (b : Int) : List Int := xs.map (· + b)
theorem addl_get (xs : List Int) (b : Int) (j : Nat) (h : j < xs.length) : (addl xs b).getD j 0 = xs.getD j 0 + b := by
  unfold addl
  rw [List.getD_eq_getElem?_getD, List.getD_eq_getElem?_getD, List.getElem?_map, List.getElem?_eq_getElem h]; rfl
theorem addl_v2 (xs : List Int) (b : Int) (W H i : Nat) (hW : 0 < W) (hl : xs.length = 4 * W * H) (hi : i < W * H) : v2 (addl xs b) W i = v2 xs W i + 8 * b := by
  have hx := idx W H i hW hi
  unfold v2
  rw [addl_get _ _ _ (by omega), addl_get _ _ _ (by omega), addl_get _ _ _ (by omega), addl_get _ _ _ (by omega)]
  omega
theorem addl_vs (xs : List Int) (b : Int) (W H : Nat) (hW : 0 < W) (hl : xs.length = 4 * W * H) : vs (addl xs b) W (W * H) = (vs xs W (W * H)).map (· - (-(8 * b))) := by
  unfold vs
  rw [List.map_map]
  apply List.map_congr_left
  intro i hi
  show _ = v2 xs W i - _
  rw [addl_v2 xs b W H i hW hl (List.mem_range.1 hi)]; omega
theorem addl_mean (xs : List Int) (b : Int) (W H : Nat) (hW : 0 < W) (hp : 0 < W * H) (hl : xs.length = 4 * W * H) : mean (addl xs b) W H = mean xs W H + 8 * b := by
  unfold mean tot
  rw [addl_vs xs b W H hW hl, sum_sub, vs_length]
  generalize W * H = n at *
  generalize (vs xs W n).sum = S at *
  have e : ((n / 2 : Nat) : Int) + (S - -(8 * b) * (n : Int)) = (((n / 2 : Nat) : Int) + S) + 8 * b * (n : Int) := by rw [Int.neg_mul]; omega
  rw [e, Int.add_mul_ediv_right _ _ (by omega)]
theorem addl_acs (xs : List Int) (b : Int) (W H : Nat) (hW : 0 < W) (hp : 0 < W * H) (hl : xs.length = 4 * W * H) : acs (addl xs b) W H = acs xs W H := by
  unfold acs
  rw [addl_mean xs b W H hW hp hl, addl_vs xs b W H hW hl, List.map_map]
  apply List.map_congr_left
  intro x _
  show x - _ - _ = _
  omega
theorem addl_length (xs : List Int) (b : Int) : (addl xs b).length = xs.length := by unfold addl; simp
theorem addl_bytes {xs : List Int} {b : Int} (h : Bytes xs) (h0 : 0 ≤ b) (h1 : ∀ j : Nat, j < xs.length → xs.getD j 0 + b ≤ 255) : Bytes (addl xs b) := fun x hx => by
  unfold addl at hx
  obtain ⟨y, hy, rfl⟩ := List.mem_map.1 hx
  have h2 := h y hy
  obtain ⟨j, hj, rfl⟩ := List.getElem_of_mem hy
  have h3 := h1 j hj
  rw [List.getD_eq_getElem?_getD, List.getElem?_eq_getElem hj] at h3
  exact ⟨by omega, h3⟩
theorem const_map (b : Int) (xs : List Int) : xs.map (fun _ => b) = List.replicate xs.length b := by
  induction xs with
  | nil => rfl
  | cons a t ih => rw [List.map_cons, ih, List.length_cons, List.replicate_succ]
theorem zero_v2 (n W i : Nat) : v2 (List.replicate n 0) W i = 0 := by
  have h : ∀ j, (List.replicate n (0 : Int)).getD j 0 = 0 := fun j => by
    rw [List.getD_eq_getElem?_getD]
    rcases Nat.lt_or_ge j n with hj | hj
    · rw [List.getElem?_replicate, if_pos hj]; rfl
    · rw [List.getElem?_eq_none (by simpa using hj)]; rfl
  unfold v2
  simp only [h]; rfl
theorem zero_acs (n W H : Nat) (hp : 0 < W * H) : acs (List.replicate n 0) W H = List.replicate (W * H) 0 := by
  have hv : vs (List.replicate n 0) W (W * H) = List.replicate (W * H) 0 := by
    unfold vs
    apply List.ext_getElem
    · simp
    · intro i h1 h2; simp [zero_v2]
  have hm : mean (List.replicate n 0) W H = 0 := by
    unfold mean tot
    rw [hv]
    have : (List.replicate (W * H) (0 : Int)).sum = 0 := by simp
    rw [this]
    generalize W * H = m at *
    rw [Int.add_zero]
    exact Int.ediv_eq_zero_of_lt (by omega) (by omega)
  unfold acs
  rw [hv, hm]
  simp
theorem const_acs (b : Int) (n W H : Nat) (hW : 0 < W) (hp : 0 < W * H) (hl : n = 4 * W * H) : acs (List.replicate n b) W H = List.replicate (W * H) 0 := by
  have e : List.replicate n b = addl (List.replicate n 0) b := by unfold addl; simp
  rw [e, addl_acs _ _ _ _ hW hp (by simpa using hl), zero_acs _ _ _ hp]

/-- The first i turned by f. -/
def upg (f : Int → Int) (xs : List Int) (i : Nat) : List Int := (xs.take i).map f ++ xs.drop i
theorem upg_zero (f : Int → Int) (xs : List Int) : upg f xs 0 = xs := by simp [upg]
theorem upg_all (f : Int → Int) (xs : List Int) : upg f xs xs.length = xs.map f := by unfold upg; simp
theorem upg_length (f : Int → Int) (xs : List Int) (i : Nat) : (upg f xs i).length = xs.length := by unfold upg; simp; omega
theorem upg_get (f : Int → Int) (xs : List Int) (i : Nat) (h : i < xs.length) : (upg f xs i).getD i 0 = xs.getD i 0 := by
  unfold upg
  rw [List.getD_eq_getElem?_getD, List.getElem?_append_right (by simp; omega)]
  have e : i - (List.map f (List.take i xs)).length = 0 := by simp; omega
  rw [e, List.getElem?_drop, Nat.add_zero, List.getD_eq_getElem?_getD]
theorem upg_set (f : Int → Int) (xs : List Int) (i : Nat) (h : i < xs.length) : (upg f xs i).set i (f (xs.getD i 0)) = upg f xs (i + 1) := by
  unfold upg
  have hl : (List.map f (List.take i xs)).length = i := by simp; omega
  have hg : xs.getD i 0 = xs[i] := by rw [List.getD_eq_getElem?_getD, List.getElem?_eq_getElem h]; rfl
  rw [List.set_append_right _ _ (by omega), hl, Nat.sub_self, List.drop_eq_getElem_cons h, List.set_cons_zero, List.take_succ_eq_append_getElem h, List.map_append, List.append_assoc, hg]
  rfl
end Go.Proofs.Ytnlhciebkcafeaa.Cm
