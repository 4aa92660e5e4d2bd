/- The closure of cfl.Predict, and what makes it. -/
import Derived.Test.YtnlhciebkcafeaaPCflPredictsx1
import Derived.Test.YtnlhciebkcafeaaPd
namespace Go.Proofs.Ytnlhciebkcafeaa.Pr
open Go.RowKit Go.Proofs.Ytnlhciebkcafeaa.PCflPredicts Go.Proofs.YtnlhciebkcafeaaW.PrintWords Go.Proofs.YtnlhciebkcafeaaW.PrintLast Go.Proofs.YtnlhciebkcafeaaW.PrintMore Go.Proofs.Ytnlhciebkcafeaa.Cf Go.Proofs.Ytnlhciebkcafeaa.Pd

set_option maxRecDepth 100000 in
theorem by_any (a : Int) (w : World) : Calls Try.prog 24 #[.int .i64 a] w fun e w' => e = .returned (.func (.func 26) #[] #[.pointer (some ⟨w.heap.size, 0, none⟩)]) ∧ w' = w.alloc (.cells #[.int .i64 a] 3) := by
  have hmf : ∀ (fn : Fn) (first cap : Array Value) (w : World), (Instr.makeFunc fn first cap).run Try.prog w = .ok (.func fn first cap) w := fun _ _ _ _ => rfl
  go_enter Try.func24, Try.ntmps24
  go_wp2
  go_ret
  exact ⟨rfl, rfl⟩
set_option maxRecDepth 100000 in
theorem part_any (a v : Int) (b : Nat) (w : World) (hc : w.cell? ⟨b, 0, none⟩ = some (.int .i64 a)) (h0 : -32768 ≤ a * v) (h1 : a * v ≤ 32768) : Calls Try.prog 26 #[.int .i64 v, .pointer (some ⟨b, 0, none⟩)] w fun e w' => e = .returned (.int .i64 (ptn (a * v))) ∧ w' = w := by
  obtain ⟨p, hp⟩ : ∃ p, a * v = p := ⟨_, rfl⟩
  rw [hp] at h0 h1 ⊢
  have hw : wrap64 (a * v) = p := by rw [hp]; unfold wrap64; omega
  clear hp
  unfold ptn
  by_cases hn : p < 0
  · rw [if_pos hn]
    go_enter Try.func26, Try.ntmps26
    go_wp2
    go_ret
    exact ⟨rfl, rfl⟩
  · rw [if_neg hn]
    go_enter Try.func26, Try.ntmps26
    go_wp2
    go_ret
    exact ⟨rfl, rfl⟩
/-- The lengths are not in order. -/
theorem pr_long (A0 A1 : Option Addr) (n0 c0 n1 c1 : Nat) (al : Int) (w : World) (h : 1024 < n0) :
    Calls Try.prog 15 #[.slice A0 n0 c0, .slice A1 n1 c1, .int .i64 al] w fun e w' => e = .returned (.tuple #[.slice none 0 0, .int .i64 2]) ∧ Below w.heap.size w w' := by
  have h1 : (n0 : Int) > 1024 := by omega
  go_enter Try.func15, Try.ntmps15
  go_wp2
  go_ret2
  exact ⟨rfl, Below.refl _ _⟩
theorem pr_unlike (A0 A1 : Option Addr) (n0 c0 n1 c1 : Nat) (al : Int) (w : World) (h : n0 ≤ 1024) (hu : n1 ≠ n0) :
    Calls Try.prog 15 #[.slice A0 n0 c0, .slice A1 n1 c1, .int .i64 al] w fun e w' => e = .returned (.tuple #[.slice none 0 0, .int .i64 2]) ∧ Below w.heap.size w w' := by
  have h1 : ¬ (n0 : Int) > 1024 := by omega
  have h2 : ((n1 : Int) != (n0 : Int)) = true := bne_iff_ne.2 (by omega)
  go_enter Try.func15, Try.ntmps15
  go_wp2
  go_ret2
  exact ⟨rfl, Below.refl _ _⟩
set_option maxRecDepth 100000 in
set_option maxHeartbeats 2000000 in
theorem pr_walk (A0 A1 : Option Addr) (c0 c1 : Nat) (bs xs : List Int) (al : Int) (w : World) (hby : Bytes bs) (h0 : Kd.C (Kd.int .u8) w A0 bs.length bs) (h1 : Kd.C (Kd.int .i64) w A1 xs.length xs) (hn : bs.length ≤ 1024) (hu : xs.length = bs.length) :
    Calls Try.prog 15 #[.slice A0 bs.length c0, .slice A1 xs.length c1, .int .i64 al] w fun e w' => ∃ v, e = .returned (.tuple #[v, .int .i64 (prErr bs xs al)]) ∧ Kd.R (Kd.int .u8) 5 w' w.heap.size (fun _ => True) v (prAns bs xs al) ∧ Below w.heap.size w w' := by
  have H0 := Aside0.mk h0
  have H1 := Aside0.mk h1
  clear h0 h1
  have hl1 : ¬ (bs.length : Int) > 1024 := by omega
  have hl2 : ((xs.length : Int) != (bs.length : Int)) = false := by rw [hu]; simp
  have HB := Aside0.mk (Below.refl w.heap.size w)
  have HI := Aside0.mk (show ∀ j : Nat, j < 0 → In (xs.getD j 0) from fun j h => absurd h (Nat.not_lt_zero _))
  have hxl : xs.length ≤ 1024 := by omega
  have HU := Aside0.mk hu
  clear hu
  go_enter Try.func15, Try.ntmps15
  go_wp2
  clear hl1 hl2
  go_loopw [26] (fun v26 wr => ∃ i : Nat, i ≤ xs.length ∧ v26 = .int .i64 i ∧ Aside0 (∀ j : Nat, j < i → In (xs.getD j 0)) ∧ Aside0 (Below w.heap.size w wr)) (fun v26 _ => xs.length - (intOf v26).toNat)
  case atStart => exact ⟨0, Nat.zero_le _, rfl, HI, HB⟩
  case round =>
    clear HB HI
    obtain ⟨i, hi, rfl, HI, HB⟩ := hrel
    by_cases hlt : i < xs.length
    · obtain ⟨ad, rfl, hx⟩ := Kd.at_int (Kd.C_below H1.out HB.out) (i : Int) (by omega) (by omega)
      rw [Int.toNat_natCast] at hx
      have hx2 : wr.cell? (ad.add i) = some (.int .i64 (xs.getD i 0)) := hx
      clear hx
      obtain ⟨x, hg⟩ : ∃ x, xs.getD i 0 = x := ⟨_, rfl⟩
      rw [hg] at hx2
      by_cases hb1 : x < -2048
      · have hbad : prOk bs xs al = false := by
          rw [Bool.eq_false_iff]; intro hk
          have := (getD_in (prOk_iff.1 hk).2.2.1 i).1
          omega
        have HA := Aside0.mk hbad
        clear hbad hg
        go_wp2
        go_ret2
        unfold prAns prErr
        rw [HA.out]
        exact ⟨_, rfl, Kd.R_nil _ _ _ _ _, HB.out⟩
      · by_cases hb2 : x > 2048
        · have hbad : prOk bs xs al = false := by
            rw [Bool.eq_false_iff]; intro hk
            have := (getD_in (prOk_iff.1 hk).2.2.1 i).2
            omega
          have HA := Aside0.mk hbad
          clear hbad hg
          go_wp2
          go_ret2
          unfold prAns prErr
          rw [HA.out]
          exact ⟨_, rfl, Kd.R_nil _ _ _ _ _, HB.out⟩
        · have HI' := Aside0.mk (show ∀ j : Nat, j < i + 1 → In (xs.getD j 0) from fun j h => by
            rcases Nat.lt_or_ge j i with hj | hj
            · exact HI.out j hj
            · obtain rfl : j = i := by omega
              rw [hg]; unfold In; omega)
          clear hg HI
          go_wp2
          go_roundw
          case rel => first | exact ⟨i + 1, by omega, by go_num, HI', HB⟩ | ((repeat apply Exists.intro); exact ⟨⟨i + 1, by omega, by go_num, HI', HB⟩, rfl⟩)
          case measure => simp [intOf]; omega
    · obtain rfl : i = xs.length := by omega
      have hall : ∀ x ∈ xs, In x := fun x hx => by
        obtain ⟨j, hj, rfl⟩ := List.getElem_of_mem hx
        have := HI.out j hj
        rwa [List.getD_eq_getElem?_getD, List.getElem?_eq_getElem hj] at this
      by_cases ha : -16 ≤ al ∧ al ≤ 16
      · have HK := Aside0.mk (show prOk bs xs al = true from prOk_iff.2 ⟨hn, HU.out, hall, ha.1, ha.2⟩)
        have HV := Aside0.mk hall
        obtain ⟨ha1, ha2⟩ := ha
        have hb1 : ¬ al < -16 := by omega
        have hb2 : ¬ al > 16 := by omega
        clear hall HI
        obtain ⟨B, hB⟩ : ∃ B, wr.heap.size = B := ⟨_, rfl⟩
        have hcl : (wr.alloc (.cells #[.int .i64 al] 3)).cell? ⟨wr.heap.size, 0, none⟩ = some (.int .i64 al) := by rw [World.cell?_alloc_at _ _ _ _ rfl]; rfl
        rw [hB] at hcl
        have HZ := Aside0.mk hB
        have HL := Aside0.mk hcl
        clear hcl
        go_wp2_with (first | (go_at_call 24; (with_reducible refine (by_any _ _).mono ?_); rintro e w' ⟨rfl, rfl⟩) | ((with_reducible refine gate_dst (N := 47) rfl ?_); refine Kd.R_make (Kd.int .u8) w.heap.size 5 rfl (N := 47) rfl 22 _ _ rfl bs.length rfl rfl Try.underlying22 (.int .u8 0) 1 info5 rfl (by decide) (by omega) 0 (ok := fun k => k ≠ B) (okp := fun _ => False) rfl (fun _ hk => hk.elim) (by simp; omega) (by omega) (by omega) (below_alloc HB.out _) (below_size (below_alloc HB.out _)) ?_; intro v112 w4 ho5 hb hg_ hnew_))
        have HC4 := Aside0.mk (hg_.cell HL.out (by simp))
        rw [Int.toNat_natCast, ← fil_zero bs xs al bs.length] at ho5
        have HO := Aside0.mk ho5
        have HB4 := Aside0.mk hb
        clear ho5 hb hg_ hnew_ HL HB
        go_loopw [50] (fun v50 w5 => ∃ y : Nat, y ≤ bs.length ∧ v50 = .int .i64 y ∧ Aside0 (Kd.R (Kd.int .u8) 5 w5 w.heap.size (fun k => k ≠ B) v112 (fil bs xs al bs.length y)) ∧ Aside0 (w5.cell? ⟨B, 0, none⟩ = some (.int .i64 al)) ∧ Aside0 (Below w.heap.size w w5)) (fun v50 _ => bs.length - (intOf v50).toNat)
        case atStart => exact ⟨0, Nat.zero_le _, rfl, HO, HC4, HB4⟩
        case round =>
          clear HO HC4 HB4
          obtain ⟨y, hy, rfl, HO, HL, HB⟩ := hrel
          by_cases hly : y < bs.length
          · obtain ⟨g, cp, rfl, gb, gl, cells, hgc⟩ := Kd.R_form HO.out (by rw [fil_length]; omega)
            have hgB : g ≠ B := HO.out.1 g (by simp [Value.ownBlock])
            rw [fil_length] at HO ⊢
            have GB := Aside0.mk gb
            have GN := Aside0.mk hgB
            clear gl cells hgc gb hgB
            obtain ⟨hx0, hf0⟩ := Kd.R_celln 0 HO.out (y : Int) (by omega) (by omega)
            have HP := Aside0.mk (Kd.R_putg HO.out (y : Int) (pv bs xs al y))
            rw [Int.toNat_natCast, fil_set bs xs al bs.length y] at HP
            rw [Int.toNat_natCast] at hx0 hf0
            obtain ⟨ad0, rfl, hb0⟩ := Kd.at_int (Kd.C_below H0.out HB.out) (y : Int) (by omega) (by omega)
            obtain ⟨ad1, e1, hb1⟩ := Kd.at_int (Kd.C_below H1.out HB.out) (y : Int) (by omega) (by have := HU.out; omega)
            obtain rfl := e1
            rw [Int.toNat_natCast] at hb0 hb1
            have hc0 : wr.cell? (ad0.add y) = some (.int .u8 (bs.getD y 0)) := hb0
            have hc1 : wr.cell? (ad1.add y) = some (.int .i64 (xs.getD y 0)) := hb1
            clear hb0 hb1
            have hpv : pv bs xs al y = min (max (bs.getD y 0 + ptn (al * xs.getD y 0)) 0) 255 := rfl
            have q0 := getD_byte hby y
            have q1 := getD_in HV.out y
            have q2 := mul_in ha1 ha2 q1.1 q1.2
            have q3 := ptn_in q2.1 q2.2
            have hly2 : y < xs.length := by have := HU.out; omega
            obtain ⟨b0, hb0⟩ : ∃ b0, bs.getD y 0 = b0 := ⟨_, rfl⟩
            obtain ⟨x0, hx0'⟩ : ∃ x0, xs.getD y 0 = x0 := ⟨_, rfl⟩
            rw [hb0] at hc0 hpv q0
            rw [hx0'] at hc1 hpv q2 q3
            clear hb0 hx0' q1
            obtain ⟨t, ht⟩ : ∃ t, ptn (al * x0) = t := ⟨_, rfl⟩
            rw [ht] at hpv q3
            have HT := Aside0.mk ht
            have HPV := Aside0.mk hpv
            have Q2 := Aside0.mk q2
            clear ht hpv q2 hn
            go_wp2_with (first | (go_at_call 26; (with_reducible refine (part_any al x0 B _ HL.out Q2.out.1 Q2.out.2).mono ?_); rintro e w' ⟨rfl, rfl⟩; rw [HT.out]))
            have hm : (if 255 < (if b0 + t < 0 then 0 else b0 + t) then 255 else if b0 + t < 0 then 0 else b0 + t) = pv bs xs al y := by rw [HPV.out]; (repeat' split) <;> omega
            rw [hm]
            exact ⟨⟨y + 1, by omega, rfl, ⟨HP.out.1⟩, ⟨(World.cell?_setCell_far _ _ _ _ GN.out).trans HL.out⟩, ⟨below_set HB.out GB.out⟩⟩, by simp [intOf]; omega⟩
          · obtain rfl : y = bs.length := by omega
            go_wp2
            go_ret2
            unfold prAns prErr
            rw [HK.out]
            rw [fil_all] at HO
            exact ⟨_, rfl, Kd.R_mono HO.out (fun _ _ => trivial), HB.out⟩
      · have hbad : prOk bs xs al = false := by
          rw [Bool.eq_false_iff]; intro hk
          exact ha (prOk_iff.1 hk).2.2.2
        have HA := Aside0.mk hbad
        clear hbad hall HI
        by_cases hb1 : al < -16
        · clear ha
          go_wp2
          go_ret2
          unfold prAns prErr
          rw [HA.out]
          exact ⟨_, rfl, Kd.R_nil _ _ _ _ _, HB.out⟩
        · have hb2 : al > 16 := by omega
          clear ha
          go_wp2
          go_ret2
          unfold prAns prErr
          rw [HA.out]
          exact ⟨_, rfl, Kd.R_nil _ _ _ _ _, HB.out⟩
/-- Predict, of any samples, numbers and alpha. -/
theorem pr_any (A0 A1 : Option Addr) (c0 c1 : Nat) (bs xs : List Int) (al : Int) (w : World) (hby : Bytes bs) (h0 : Kd.C (Kd.int .u8) w A0 bs.length bs) (h1 : Kd.C (Kd.int .i64) w A1 xs.length xs) :
    Calls Try.prog 15 #[.slice A0 bs.length c0, .slice A1 xs.length c1, .int .i64 al] w fun e w' => ∃ v, e = .returned (.tuple #[v, .int .i64 (prErr bs xs al)]) ∧ Kd.R (Kd.int .u8) 5 w' w.heap.size (fun _ => True) v (prAns bs xs al) ∧ Below w.heap.size w w' := by
  by_cases hn : bs.length ≤ 1024
  · by_cases hu : xs.length = bs.length
    · exact pr_walk A0 A1 c0 c1 bs xs al w hby h0 h1 hn hu
    · refine (pr_unlike A0 A1 bs.length c0 xs.length c1 al w hn hu).mono ?_
      rintro e w' ⟨rfl, hb⟩
      have hbad : prOk bs xs al = false := by rw [Bool.eq_false_iff]; intro hk; exact hu (prOk_iff.1 hk).2.1
      unfold prAns prErr
      rw [hbad]
      exact ⟨_, rfl, Kd.R_nil _ _ _ _ _, hb⟩
  · refine (pr_long A0 A1 bs.length c0 xs.length c1 al w (by omega)).mono ?_
    rintro e w' ⟨rfl, hb⟩
    have hbad : prOk bs xs al = false := by rw [Bool.eq_false_iff]; intro hk; exact hn (prOk_iff.1 hk).1
    unfold prAns prErr
    rw [hbad]
    exact ⟨_, rfl, Kd.R_nil _ _ _ _ _, hb⟩
end Go.Proofs.Ytnlhciebkcafeaa.Pr
