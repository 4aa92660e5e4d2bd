/- What the printed functions of the reference's Predict come to. No program. -/
import Derived.Test.YtnlhciebkcafeaaPCflPredictsx1
import Derived.Test.YtnlhciebkcafeaaPCflPredictsx2
import Derived.Test.YtnlhciebkcafeaaPd
namespace Go.Proofs.Ytnlhciebkcafeaa.Cq
open Go.RowKit Go.Proofs.Ytnlhciebkcafeaa.PCflPredicts Go.Proofs.YtnlhciebkcafeaaW.PrintWords Go.Proofs.YtnlhciebkcafeaaW.PrintLast Go.Proofs.YtnlhciebkcafeaaW.PrintMore Go.Proofs.Ytnlhciebkcafeaa.Cf Go.Proofs.Ytnlhciebkcafeaa.Pd

theorem w64 {n : Int} (h0 : -9223372036854775808 ≤ n) (h1 : n ≤ 9223372036854775807) : wrap64 n = n := by unfold wrap64; omega
theorem rd_nat (xs : List Int) (j : Nat) : rd xs (j : Int) = xs.getD j 0 := Eq.trans rfl rfl
theorem abs_eq (p : Int) (h0 : -32768 ≤ p) : zoetroperef00_Abs.f p = some (if p < 0 then -p else p) := by
  unfold zoetroperef00_Abs.f
  by_cases hp : p < 0
  · rw [if_pos hp, if_pos hp, w64 (by omega) (by omega)]
  · rw [if_neg hp, if_neg hp]
theorem clip_eq (x : Int) : zoetroperef00_Clip.f x 0 255 = some (min (max x 0) 255) := by
  unfold zoetroperef00_Clip.f
  by_cases h0 : x < 0
  · rw [if_pos h0]; congr 1; omega
  · rw [if_neg h0]
    by_cases h1 : x > 255
    · rw [if_pos h1]; congr 1; omega
    · rw [if_neg h1]; congr 1; omega

def Good (xs : List Int) (i : Nat) : Prop := ∀ j, i ≤ j → j < xs.length → In (xs.getD j 0)

theorem bad_round (k : Nat) (bs xs out : List Int) (al : Int) (i : Nat) (hu : xs.length = bs.length) (hi : i < bs.length) (hb : ¬ In (xs.getD i 0)) :
    zoetroperef13_Predict.l0 (k + 1 + 1) bs xs al out i = some ([], 2) := by
  have hj : ∀ o, zoetroperef13_Predict.j2 (k + 1) bs xs al o i true = some ([], 2) := fun o => by simp only [zoetroperef13_Predict.j2, if_true]
  rw [zoetroperef13_Predict.l0]
  simp only [rd_nat]
  rw [if_pos (by omega), if_pos (by omega), if_pos (by omega)]
  by_cases h1 : xs.getD i 0 < -2048
  · rw [if_pos h1]; exact hj out
  · rw [if_neg h1]
    have h2 : xs.getD i 0 > 2048 := by unfold In at hb; omega
    rw [decide_eq_true h2]; exact hj out

set_option maxHeartbeats 1000000 in
theorem good_round (k : Nat) (bs xs out : List Int) (al : Int) (i : Nat) (hby : Bytes bs) (hu : xs.length = bs.length) (hn : bs.length ≤ 1024) (hi : i < bs.length) (ho : out.length ≤ 1024) (hg : In (xs.getD i 0)) (ha0 : -16 ≤ al) (ha1 : al ≤ 16) :
    zoetroperef13_Predict.l0 (k + 1 + 1) bs xs al out i = zoetroperef13_Predict.l0 k bs xs al (out ++ [pv bs xs al i]) (i + 1 : Nat) := by
  have hpv : pv bs xs al i = min (max (bs.getD i 0 + ptn (al * xs.getD i 0)) 0) 255 := rfl
  have hb := getD_byte hby i
  unfold In at hg
  have hm := mul_in ha0 ha1 hg.1 hg.2
  have ht := ptn_in hm.1 hm.2
  obtain ⟨p, hp⟩ : ∃ p, al * xs.getD i 0 = p := ⟨_, rfl⟩
  have hl : zoetroperef13_Predict.l0 (k + 1 + 1) bs xs al out i = zoetroperef13_Predict.j2 (k + 1) bs xs al out i false := by
    rw [zoetroperef13_Predict.l0]
    simp only [rd_nat]
    rw [if_pos (by omega), if_pos (by omega), if_pos (by omega), if_neg (by omega), decide_eq_false (by omega)]
  rw [hl]
  clear hl
  rw [hp] at hm ht hpv
  obtain ⟨b, hbb⟩ : ∃ b, bs.getD i 0 = b := ⟨_, rfl⟩
  rw [hbb] at hpv hb
  have e0 := Aside0.mk (w64 (n := p) (by omega) (by omega))
  have e1 := Aside0.mk (w64 (n := (i : Int) + 1) (by omega) (by omega))
  have e2 := Aside0.mk (w64 (n := b) (by omega) (by omega))
  rw [zoetroperef13_Predict.j2]
  simp only [rd_nat, hp, hbb]
  simp only [e0.out, e1.out, e2.out]
  rw [if_neg (by simp), if_pos (by omega), if_pos (by omega), abs_eq p (by omega), Option.bind_some]
  by_cases hneg : p < 0
  · rw [if_pos hneg, if_pos hneg, if_pos (by omega), clip_eq, Option.bind_some, if_pos (by omega)]
    have hd : ptn p = -((32 - p) / 64) := by unfold ptn; rw [if_pos hneg]
    have f1 := Aside0.mk (w64 (n := -p + 32) (by omega) (by omega))
    simp only [f1.out]
    rw [Int.tdiv_eq_ediv_of_nonneg (by omega)]
    have f2 := Aside0.mk (w64 (n := (-p + 32) / 64) (by omega) (by omega))
    have f3 := Aside0.mk (w64 (n := -((-p + 32) / 64)) (by omega) (by omega))
    have f4 := Aside0.mk (w64 (n := b + -((-p + 32) / 64)) (by omega) (by omega))
    simp only [f2.out, f3.out, f4.out]
    have fe : min (max (b + -((-p + 32) / 64)) 0) 255 % 256 = pv bs xs al i := by rw [hpv, hd]; omega
    rw [fe]
    rfl
  · rw [if_neg hneg, if_neg hneg, if_pos (by omega), clip_eq, Option.bind_some, if_pos (by omega)]
    have hd : ptn p = (p + 32) / 64 := by unfold ptn; rw [if_neg hneg]
    have f1 := Aside0.mk (w64 (n := p + 32) (by omega) (by omega))
    simp only [f1.out]
    rw [Int.tdiv_eq_ediv_of_nonneg (by omega)]
    have f2 := Aside0.mk (w64 (n := (p + 32) / 64) (by omega) (by omega))
    have f4 := Aside0.mk (w64 (n := b + (p + 32) / 64) (by omega) (by omega))
    simp only [f2.out, f4.out]
    have fe : min (max (b + (p + 32) / 64) 0) 255 % 256 = pv bs xs al i := by rw [hpv, hd]; omega
    rw [fe]
    rfl
theorem ref_end (k : Nat) (bs xs out : List Int) (al : Int) (i : Nat) (hi : bs.length ≤ i) : zoetroperef13_Predict.l0 (k + 1) bs xs al out i = some (out, 0) := by
  rw [zoetroperef13_Predict.l0, if_neg (by omega)]
theorem ref_loop (bs xs : List Int) (al : Int) (hby : Bytes bs) (hu : xs.length = bs.length) (hn : bs.length ≤ 1024) (ha0 : -16 ≤ al) (ha1 : al ≤ 16) (d : Nat) : ∀ i : Nat, i + d = bs.length →
    (Good xs i → ∃ k, zoetroperef13_Predict.l0 k bs xs al (prs bs xs al i) i = some (prs bs xs al bs.length, 0)) ∧ (¬ Good xs i → ∃ k, zoetroperef13_Predict.l0 k bs xs al (prs bs xs al i) i = some ([], 2)) := by
  induction d with
  | zero =>
    intro i h
    obtain rfl : i = bs.length := by omega
    exact ⟨fun _ => ⟨0 + 1, ref_end 0 bs xs _ al _ (Nat.le_refl _)⟩, fun hb => absurd (fun j h1 h2 => by omega) hb⟩
  | succ d ih =>
    intro i h
    by_cases hi : In (xs.getD i 0)
    · have hr := fun k => good_round k bs xs (prs bs xs al i) al i hby hu hn (by omega) (by rw [prs_length]; omega) hi ha0 ha1
      rw [← prs_succ] at hr
      obtain ⟨h1, h2⟩ := ih (i + 1) (by omega)
      refine ⟨fun hg => ?_, fun hb => ?_⟩
      · obtain ⟨k, hk⟩ := h1 (fun j hj hl => hg j (by omega) hl)
        exact ⟨k + 1 + 1, (hr k).trans hk⟩
      · obtain ⟨k, hk⟩ := h2 (fun hg => hb (fun j hj hl => by
          rcases Nat.eq_or_lt_of_le hj with rfl | hj'
          · exact hi
          · exact hg j hj' hl))
        exact ⟨k + 1 + 1, (hr k).trans hk⟩
    · exact ⟨fun hg => absurd (hg i (Nat.le_refl _) (by omega)) hi, fun _ => ⟨0 + 1 + 1, bad_round 0 bs xs _ al i hu (by omega) hi⟩⟩
theorem good_iff (xs : List Int) : Good xs 0 ↔ ∀ x ∈ xs, In x := by
  refine ⟨fun h x hx => ?_, fun h j _ _ => getD_in h j⟩
  obtain ⟨j, hj, rfl⟩ := List.getElem_of_mem hx
  have := h j (Nat.zero_le _) hj
  rwa [List.getD_eq_getElem?_getD, List.getElem?_eq_getElem hj] at this
theorem ref_any (bs xs : List Int) (al : Int) (hby : Bytes bs) : ∃ k, zoetroperef13_Predict.f k bs xs al = some (prAns bs xs al, prErr bs xs al) := by
  have hj : zoetroperef13_Predict.j0 (0 + 1) bs xs al true = some ([], 2) := by simp only [zoetroperef13_Predict.j0, if_true]
  have hj0 : ∀ k, zoetroperef13_Predict.j0 (k + 1) bs xs al false = zoetroperef13_Predict.l0 k bs xs al [] 0 := fun k => by rw [zoetroperef13_Predict.j0, if_neg (by simp)]
  have hbad : prOk bs xs al = false → prAns bs xs al = [] ∧ prErr bs xs al = 2 := fun h => by unfold prAns prErr; rw [h]; exact ⟨rfl, rfl⟩
  have hok : prOk bs xs al = true → prAns bs xs al = prs bs xs al bs.length ∧ prErr bs xs al = 0 := fun h => by unfold prAns prErr; rw [h]; exact ⟨rfl, rfl⟩
  unfold zoetroperef13_Predict.f
  by_cases hn : (bs.length : Int) > 1024
  · obtain ⟨e1, e2⟩ := hbad (by rw [Bool.eq_false_iff]; intro hk; have := (prOk_iff.1 hk).1; omega)
    rw [e1, e2]
    exact ⟨0 + 1, by rw [if_pos hn]; exact hj⟩
  · by_cases hu : (xs.length : Int) = bs.length
    · by_cases h1 : al < -16
      · obtain ⟨e1, e2⟩ := hbad (by rw [Bool.eq_false_iff]; intro hk; have := (prOk_iff.1 hk).2.2.2; omega)
        rw [e1, e2]
        exact ⟨0 + 1, by rw [if_neg hn, if_pos hu, if_pos h1]; exact hj⟩
      · by_cases h2 : al > 16
        · obtain ⟨e1, e2⟩ := hbad (by rw [Bool.eq_false_iff]; intro hk; have := (prOk_iff.1 hk).2.2.2; omega)
          rw [e1, e2]
          exact ⟨0 + 1, by rw [if_neg hn, if_pos hu, if_neg h1, decide_eq_true h2]; exact hj⟩
        · have hl := ref_loop bs xs al hby (by omega) (by omega) (by omega) (by omega) bs.length 0 (by omega)
          have hp0 : prs bs xs al 0 = [] := rfl
          rw [hp0, show ((0 : Nat) : Int) = 0 from rfl] at hl
          by_cases hg : Good xs 0
          · obtain ⟨e1, e2⟩ := hok (prOk_iff.2 ⟨by omega, by omega, (good_iff xs).1 hg, by omega, by omega⟩)
            rw [e1, e2]
            obtain ⟨k, hk⟩ := hl.1 hg
            exact ⟨k + 1, by rw [if_neg hn, if_pos hu, if_neg h1, decide_eq_false h2, hj0]; exact hk⟩
          · obtain ⟨e1, e2⟩ := hbad (by rw [Bool.eq_false_iff]; intro hk; exact hg ((good_iff xs).2 (prOk_iff.1 hk).2.2.1))
            rw [e1, e2]
            obtain ⟨k, hk⟩ := hl.2 hg
            exact ⟨k + 1, by rw [if_neg hn, if_pos hu, if_neg h1, decide_eq_false h2, hj0]; exact hk⟩
    · obtain ⟨e1, e2⟩ := hbad (by rw [Bool.eq_false_iff]; intro hk; have := (prOk_iff.1 hk).2.1; omega)
      rw [e1, e2]
      exact ⟨0 + 1, by rw [if_neg hn, if_neg hu]; exact hj⟩
end Go.Proofs.Ytnlhciebkcafeaa.Cq
