/- The reference's Tree.Go: one step. -/
import Derived.Test.YtjobfnicnoffmaaGq
import Derived.Deep.QuietTactic
import Derived.BigQuiet
namespace Go.Proofs.Ytjobfnicnoffmaa.Gs
open Go.RowKit Go.Proofs.Ytjobfnicnoffmaa.PPartTrees Go.Proofs.YtjobfnicnoffmaaW.PrintWords Go.Proofs.YtjobfnicnoffmaaW.PrintLast Go.Proofs.YtjobfnicnoffmaaW.PrintMore Go.Proofs.Ytjobfnicnoffmaa.Pt Go.Proofs.Ytjobfnicnoffmaa.Ph Go.Proofs.Ytjobfnicnoffmaa.Li Go.Proofs.Ytjobfnicnoffmaa.Pc Go.Proofs.Ytjobfnicnoffmaa.Tr Go.Proofs.Ytjobfnicnoffmaa.Rx Go.Proofs.Ytjobfnicnoffmaa.Gq

set_option linter.unusedSimpArgs false
set_option linter.unusedVariables false

theorem bring_plain (a n : Int) (hn : 0 < n) (hn' : n ≤ 100000) : (if a ≤ a - 1 then a else if Int.tmod a n < 0 then wrap64 (Int.tmod a n + n) else Int.tmod a n) = a % n := by
  rw [if_neg (by omega)]
  have h0 := Int.emod_nonneg a (show n ≠ 0 by omega)
  have h1 := Int.emod_lt_of_pos a hn
  have ht : Int.tmod a n = if 0 ≤ a ∨ n ∣ a then a % n else a % n - n := by
    rw [Int.tmod_eq_emod]; split <;> omega
  rw [ht]
  clear ht
  by_cases hc : 0 ≤ a ∨ n ∣ a
  · rw [if_pos hc, if_neg (by omega)]
  · rw [if_neg hc, if_pos (by omega)]
    have e : a % n - n + n = a % n := by omega
    rw [e]
    unfold wrap64; omega
theorem bring_eq (a n : Int) (hn : 0 < n) (hn' : n ≤ 100000) : PPartTrees.zoetroperef00_Bring.f a n = some (a % n) := by
  have h := bring_plain a n hn hn'
  rw [if_neg (by omega)] at h
  unfold PPartTrees.zoetroperef00_Bring.f
  rw [if_neg (by omega), if_neg (by omega), ← h]
  split <;> rfl
theorem bring_any (a n : Int) (w : World) (hn : 0 < n) (hn' : n ≤ 100000) : Calls Try.prog 12 #[.int .i64 a, .int .i64 n] w fun e w' => e = .returned (.int .i64 (a % n)) ∧ Drawn0 w w' := PPartTrees.zoetroperef00_Bring.calls a n _ w (bring_eq a n hn hn')

section
variable {W0 : World} {g : Nat} {a : S23} {A : Option Addr} {c : Nat} {cs : List Int} {used : Nat} {v : Value} {L : List S23} {w w' : World}
theorem tree_cells (h : RT W0 g a A c cs used v L w) : w.cell? ⟨g, 0, none⟩ = some (.int .i64 a.f0) ∧ w.cell? ⟨g, 1, none⟩ = some (.int .i64 a.f1) ∧ w.cell? ⟨g, 2, none⟩ = some (.int .i64 a.f2) ∧ w.cell? ⟨g, 3, none⟩ = some (.int .i64 a.f3) ∧
    w.cell? ⟨g, 4, none⟩ = some (.slice A cs.length c) ∧ w.cell? ⟨g, 5, none⟩ = some (.int .i64 used) ∧ w.cell? ⟨g, 6, none⟩ = some v :=
  ⟨(blk_cell h.blk 0).trans rfl, (blk_cell h.blk 1).trans rfl, (blk_cell h.blk 2).trans rfl, (blk_cell h.blk 3).trans rfl, (blk_cell h.blk 4).trans rfl, (blk_cell h.blk 5).trans rfl, (blk_cell h.blk 6).trans rfl⟩
end
theorem fresh_from {v v' : Value} {w w2 : World} (h : v'.ownBlock = v.ownBlock ∨ ∃ b, v'.ownBlock = some b ∧ w2.heap.size ≤ b) (hs : w.heap.size ≤ w2.heap.size) : v'.ownBlock = v.ownBlock ∨ ∃ b, v'.ownBlock = some b ∧ w.heap.size ≤ b := by
  rcases h with h | ⟨b, h, hb⟩
  · exact .inl h
  · exact .inr ⟨b, h, Nat.le_trans hs hb⟩
theorem RT_push {W0 : World} {g : Nat} {a : S23} {A : Option Addr} {c : Nat} {cs : List Int} {used : Nat} {v v1 : Value} {L M : List S23} {w w1 : World} (h : RT W0 g a A c cs used v L w)
    (hb : Below W0.heap.size W0 w1) (hgr : w.grownBy w1 v.ownBlock) (ho : Kd.R k23 23 w1 W0.heap.size (fun k => k ≠ g) v1 M) : RT W0 g a A c cs used v1 M (w1.setCell ⟨g, 6, none⟩ v1) ∧ KeepBut w (w1.setCell ⟨g, 6, none⟩ v1) g v.ownBlock := by
  have hbk := (hgr.block g h.glt (fun e => h.own.1 g e.symm rfl)).trans h.blk
  exact ⟨⟨hb.setCell h.far _, h.far, h.le, heap_setCell_same w1 g 6 _ 61 v1 hbk, Kd.R_far ho (fun _ hk => hk) v1⟩, (KeepBut.of_grown hgr g).set_ 6 v1⟩
theorem keep_any {w w' : World} {g : Nat} {row : Option Nat} (h : KeepBut w w' g none) : KeepBut w w' g row := ⟨h.1, fun i hi hg _ => h.2 i hi hg (by simp)⟩
theorem RT_used {W0 : World} {g : Nat} {a : S23} {A : Option Addr} {c : Nat} {cs : List Int} {used : Nat} {v : Value} {L : List S23} {w : World} (h : RT W0 g a A c cs used v L w) (hu : used < cs.length) : RT W0 g a A c cs (used + 1) v L (w.setCell ⟨g, 5, none⟩ (.int .i64 ((used : Int) + 1))) :=
  ⟨h.below.setCell h.far _, h.far, hu, heap_setCell_same w g 5 _ 61 _ h.blk, Kd.R_far h.own (fun _ hk => hk) _⟩
theorem next_nil (n : Int) (cs : List Int) (used : Nat) (hu : ¬ used < cs.length) : nextK n (cs.drop used) = 0 % n ∧ cs.drop used = (cs.drop used).tail := by
  rw [List.drop_eq_nil_of_le (by omega)]
  exact ⟨by simp [nextK], rfl⟩
theorem next_cons (n : Int) (cs : List Int) (used : Nat) (hu : used < cs.length) : nextK n (cs.drop used) = cs.getD used 0 % n ∧ cs.drop (used + 1) = (cs.drop used).tail := by
  have e := List.drop_eq_getElem_cons hu
  rw [e]
  refine ⟨?_, rfl⟩
  unfold nextK
  rw [if_neg (List.cons_ne_nil _ _), List.getD_eq_getElem?_getD, List.getElem?_eq_getElem hu]
  rfl
set_option maxRecDepth 100000 in
set_option maxHeartbeats 2000000 in
theorem go_step (W0 : World) (g : Nat) (a : S23) (A : Option Addr) (c : Nat) (cs : List Int) (m : Nat) (r : S23) (sub : S23 → List Int → List S23 × List Int) (ha : Small a) (hr : regB r = true)
    (hsub : ∀ q ∈ cutAns r 3, RCall 35 W0 g a A c cs m q (sub q)) (hlen : ∀ q l, (sub q l).1.length ≤ m) (hm : 1 ≤ m) (hC : Kd.C (Kd.int .i64) W0 A cs.length cs) : RCall 35 W0 g a A c cs (4 * m) r (stepF sub a r) := by
  intro used v L w hL hT
  have HQ := Aside0.mk (quarters_any W0 g a A c cs m r sub hsub hlen)
  have hsm : Small r := by
    obtain ⟨h1, h2, h3, h4⟩ := regB_iff.1 hr
    unfold Small; omega
  have HT := Aside0.mk hT
  have HC := Aside0.mk hC
  have HRB := Aside0.mk hr
  have HL := Aside0.mk hL
  obtain ⟨T, eT⟩ : ∃ T, stepF sub a r (cs.drop used) = T := ⟨_, rfl⟩
  have ET := Aside0.mk eT
  rw [eT]
  obtain ⟨k0, k1, k2, k3, k4, k5, k6⟩ := tree_cells hT
  have hg := hT.glt
  clear eT hsub hlen hC hr hT hL k4 k5 k6
  obtain ⟨f0, f1, f2, f3⟩ := r
  obtain ⟨b0, b1, b2, b3⟩ := a
  unfold Small at hsm ha
  dsimp only at hsm ha k0 k1 k2 k3
  dsimp only [aggS]
  go_enter Try.func35, Try.ntmps35
  go_upto_region 2 with fail
  have hbr := old (o := .cells #[.int .i64 b0, .int .i64 b1, .int .i64 b2, .int .i64 b3] 23) (heap_alloc_new w (.cells #[.int .i64 f0, .int .i64 f1, .int .i64 f2, .int .i64 f3] 23))
  have hba := heap_alloc_new (w.alloc (.cells #[.int .i64 f0, .int .i64 f1, .int .i64 f2, .int .i64 f3] 23)) (.cells #[.int .i64 b0, .int .i64 b1, .int .i64 b2, .int .i64 b3] 23)
  have hb := below_alloc (below_alloc (Below.refl w.heap.size w) (.cells #[.int .i64 f0, .int .i64 f1, .int .i64 f2, .int .i64 f3] 23)) (.cells #[.int .i64 b0, .int .i64 b1, .int .i64 b2, .int .i64 b3] 23)
  rw [World.size_alloc] at hba
  obtain ⟨w2, ew2⟩ : ∃ w2, (w.alloc (.cells #[.int .i64 f0, .int .i64 f1, .int .i64 f2, .int .i64 f3] 23)).alloc (.cells #[.int .i64 b0, .int .i64 b1, .int .i64 b2, .int .i64 b3] 23) = w2 := ⟨_, rfl⟩
  rw [ew2] at hbr hba hb ⊢
  have HT2 := Aside0.mk (HT.out.after hb)
  have HK2 := Aside0.mk (KeepBut.of_below hb g v.ownBlock)
  have HBR := Aside0.mk hbr
  clear ew2 hb k0 k1 k2 k3
  obtain ⟨x0, x1, x2, x3⟩ := box_cells hbr
  obtain ⟨y0, y1, y2, y3⟩ := box_cells hba
  clear hbr hba
  obtain ⟨q, hq⟩ : ∃ q, apartB ⟨f0, f1, f2, f3⟩ ⟨b0, b1, b2, b3⟩ = q := ⟨_, rfl⟩
  have HP := Aside0.mk hq
  clear hq
  go_cut [5] (fun s5 wx => s5 = .bool q ∧ wx = w2)
  case first =>
    by_cases c0 : f0 ≥ b0 + b2
    · obtain rfl : true = q := by rw [← HP.out]; unfold apartB; dsimp only; rw [decide_eq_true c0]; rfl
      clear HP
      go_wp2_with fail
      all_goals (go_meet; exact ⟨rfl, rfl⟩)
    · skip
      by_cases c1 : b0 ≥ f0 + f2
      · obtain rfl : true = q := by rw [← HP.out]; unfold apartB; dsimp only; rw [decide_eq_false c0, decide_eq_true c1]; rfl
        clear HP
        go_wp2_with fail
        all_goals (go_meet; exact ⟨rfl, rfl⟩)
      · skip
        by_cases c2 : f1 ≥ b1 + b3
        · obtain rfl : true = q := by rw [← HP.out]; unfold apartB; dsimp only; rw [decide_eq_false c0, decide_eq_false c1, decide_eq_true c2]; rfl
          clear HP
          go_wp2_with fail
          all_goals (go_meet; exact ⟨rfl, rfl⟩)
        · skip
          obtain ⟨t, ht⟩ : ∃ t, decide (b1 ≥ f1 + f3) = t := ⟨_, rfl⟩
          obtain rfl : t = q := by rw [← HP.out]; unfold apartB; dsimp only; rw [decide_eq_false c0, decide_eq_false c1, decide_eq_false c2, ht]; simp
          clear HP
          go_wp2_with fail
          all_goals (go_meet; exact ⟨rfl, rfl⟩)
  case rest =>
    obtain ⟨rfl, hw⟩ := hcut
    subst hw
    have HAP := HP
    clear HP
    obtain ⟨ap, hap⟩ : ∃ ap, q = ap := ⟨_, rfl⟩
    rw [hap] at HAP ⊢
    clear hap q
    go_upto_region 3 with fail
    obtain ⟨q, hq⟩ : ∃ q, insideB ⟨f0, f1, f2, f3⟩ ⟨b0, b1, b2, b3⟩ = q := ⟨_, rfl⟩
    have HP := Aside0.mk hq
    clear hq
    go_cut [6] (fun s6 wx => s6 = .bool q ∧ wx = wc)
    case first =>
      by_cases c0 : ¬ (f0 ≥ b0)
      · obtain rfl : false = q := by rw [← HP.out]; unfold insideB; dsimp only; rw [decide_eq_false c0]; rfl
        clear HP
        go_wp2_with fail
        all_goals (go_meet; exact ⟨rfl, rfl⟩)
      · rw [Decidable.not_not] at c0
        by_cases c1 : ¬ (f1 ≥ b1)
        · obtain rfl : false = q := by rw [← HP.out]; unfold insideB; dsimp only; rw [decide_eq_true c0, decide_eq_false c1]; rfl
          clear HP
          go_wp2_with fail
          all_goals (go_meet; exact ⟨rfl, rfl⟩)
        · rw [Decidable.not_not] at c1
          by_cases c2 : ¬ (f0 + f2 ≤ b0 + b2)
          · obtain rfl : false = q := by rw [← HP.out]; unfold insideB; dsimp only; rw [decide_eq_true c0, decide_eq_true c1, decide_eq_false c2]; rfl
            clear HP
            go_wp2_with fail
            all_goals (go_meet; exact ⟨rfl, rfl⟩)
          · rw [Decidable.not_not] at c2
            obtain ⟨t, ht⟩ : ∃ t, decide (f1 + f3 ≤ b1 + b3) = t := ⟨_, rfl⟩
            obtain rfl : t = q := by rw [← HP.out]; unfold insideB; dsimp only; rw [decide_eq_true c0, decide_eq_true c1, decide_eq_true c2, ht]; simp
            clear HP
            go_wp2_with fail
            all_goals (go_meet; exact ⟨rfl, rfl⟩)
    case rest =>
      obtain ⟨rfl, hw⟩ := hcut
      subst hw
      have HIN := HP
      clear HP
      have h16 := (regB_iff.1 HRB.out).1
      dsimp only at h16
      cases ap with
      | true =>
        have ET1 : Aside0 (T = ([], cs.drop used)) := ⟨by rw [← ET.out]; unfold stepF; rw [if_pos HAP.out]⟩
        clear h16
        go_wp2_with fail
        go_end0
        exact ⟨rfl, used, v, by rw [ET1.out], by rw [ET1.out, List.append_nil]; exact HT2.out, HK2.out, .inl rfl⟩
      | false =>
        cases q with
        | false =>
          have ET1 : Aside0 (T = foldQ sub (cutAns ⟨f0, f1, f2, f3⟩ 3) (cs.drop used)) := ⟨by rw [← ET.out]; unfold stepF; rw [if_neg (by rw [HAP.out]; decide), if_neg (by rw [HIN.out]; decide)]⟩
          clear h16
          go_wp2_with fail
          refine (HQ.out used v L _ HL.out HT2.out).mono ?_
          rintro e w3 ⟨rfl, used', v', h1, h2, h3, h4⟩
          have H1 := Aside0.mk h1
          have H2 := Aside0.mk h2
          have H3 := Aside0.mk h3
          have H4 := Aside0.mk h4
          clear h1 h2 h3 h4
          go_wp2_with fail
          go_end0
          exact ⟨rfl, used', v', by rw [ET1.out]; exact H1.out, by rw [ET1.out]; exact H2.out, HK2.out.trans H3.out (.inl rfl), fresh_from H4.out HK2.out.1⟩
        | true =>
          obtain ⟨n, hn⟩ : ∃ n, typesN f2 = n := ⟨_, rfl⟩
          have ET0 : Aside0 (T = if n = 1 then ([⟨f0, f1, f2, f3⟩], cs.drop used) else if nextK n (cs.drop used) = 3 then foldQ sub (cutAns ⟨f0, f1, f2, f3⟩ 3) (cs.drop used).tail else (cutsL ⟨f0, f1, f2, f3⟩ (nextK n (cs.drop used)), (cs.drop used).tail)) := ⟨by rw [← ET.out]; unfold stepF; rw [if_neg (by rw [HAP.out]; decide), if_pos HIN.out]; dsimp only; rw [hn]⟩
          have HN := Aside0.mk hn
          obtain ⟨A6, c6, rfl, hl6, -⟩ := Kd.R_reads HT2.out.own
          obtain ⟨k0, k1, k2, k3, k4, k5, k6⟩ := tree_cells HT2.out
          have hg2 := HT2.out.glt
          by_cases h8 : f2 = 8
          · have hn1 : n = 1 := by rw [← hn, h8]; rfl
            rw [if_pos hn1] at ET0
            have e8 : (f2 == 8) = true := beq_iff_eq.2 h8
            clear h16 hn hn1 h8
            have hne1 : some g ≠ (Value.slice A6 L.length c6).ownBlock := fun e => HT2.out.own.1 g e.symm rfl
            have hne2 : some w.heap.size ≠ (Value.slice A6 L.length c6).ownBlock := fun e => by have := HT.out.vlt _ e.symm; omega
            have HO2 := Aside0.mk (Kd.R_drew HT2.out.own)
            have HB2 := Aside0.mk (below_drew1 HT2.out.below)
            have HF2 : Aside0 (∀ k, wc.drew.heap.size ≤ k → k ≠ g) := ⟨fun k hk e => by subst e; exact absurd hg2 (Nat.not_lt.2 hk)⟩
            have HLL : Aside0 ((L.length + 1) * 32 ≤ 140737488355328) := ⟨by have := HL.out; omega⟩
            have HN1 := Aside0.mk hne1
            have HN2 := Aside0.mk hne2
            clear hne1 hne2
            go_upto_region 18 with fail
            refine start_ (n := 11) (S := fun w' => w'.cell? ⟨g, 6, none⟩ = some (.slice A6 L.length c6) ∧ w'.cell? ⟨w.heap.size, 0, none⟩ = some (.int .i64 f0) ∧ w'.cell? ⟨w.heap.size, 1, none⟩ = some (.int .i64 f1) ∧ w'.cell? ⟨w.heap.size, 2, none⟩ = some (.int .i64 f2) ∧ w'.cell? ⟨w.heap.size, 3, none⟩ = some (.int .i64 f3)) (ds := [10]) #[false, false, false, false, false, false, false, false, false, false, false] (by kernel_rfl) rfl rfl ⟨k6, x0, x1, x2, x3⟩ (fun hHeld => ?_)
            refine pure_ (i := 0) (N := some 161) (v := ?_) (a' := ?_) #[true, false, false, false, false, false, false, false, false, false, false] rfl rfl (by kernel_rfl) (fun _ _ _ h => h) (Or.inl ⟨by rfl, ?_⟩) ?_ ?_
            rotate_left
            · intro w'
              go_simp
              with_reducible rfl
            rotate_left
            · simp only [Act.put, List.setIfInBounds_toArray, List.set_cons_zero, List.set_cons_succ, i64_w, i32_w]
              rfl
            refine pure_ (i := 1) (N := some 162) (v := ?_) (a' := ?_) #[true, true, false, false, false, false, false, false, false, false, false] rfl rfl (by kernel_rfl) (fun _ _ _ h => h) (Or.inl ⟨by rfl, ?_⟩) ?_ ?_
            rotate_left
            · intro w'
              go_simp
              with_reducible rfl
            rotate_left
            · simp only [Act.put, List.setIfInBounds_toArray, List.set_cons_zero, List.set_cons_succ, i64_w, i32_w]
              rfl
            refine pure_ (i := 2) (N := some 163) (v := ?_) (a' := ?_) #[true, true, true, false, false, false, false, false, false, false, false] rfl rfl (by kernel_rfl) (fun _ _ _ h => h) (Or.inl ⟨by rfl, ?_⟩) ?_ ?_
            rotate_left
            · intro w'
              go_simp
              with_reducible rfl
            rotate_left
            · simp only [Act.put, List.setIfInBounds_toArray, List.set_cons_zero, List.set_cons_succ, i64_w, i32_w]
              rfl
            refine pure_ (i := 3) (N := some 164) (v := ?_) (a' := ?_) #[true, true, true, true, false, false, false, false, false, false, false] rfl rfl (by kernel_rfl) (fun _ _ _ h => h) (Or.inl ⟨by rfl, ?_⟩) ?_ ?_
            rotate_left
            · intro w'
              go_simp
              with_reducible rfl
            rotate_left
            · simp only [Act.put, List.setIfInBounds_toArray, List.set_cons_zero, List.set_cons_succ, i64_w, i32_w]
              rfl
            refine take_ (i := 4) (N := some 165) (v := ?_) (a' := ?_) #[true, true, true, true, true, false, false, false, false, false, false] rfl rfl (by kernel_rfl) (fun _ _ _ h => h) (Or.inl ⟨by rfl, ?_⟩) hHeld ?_ ?_
            rotate_left
            · rintro w' ⟨s0, s1, s2, s3, s4⟩
              go_simp
              with_reducible rfl
            rotate_left
            · simp only [Act.put, List.setIfInBounds_toArray, List.set_cons_zero, List.set_cons_succ, i64_w, i32_w]
              rfl
            refine take_ (i := 5) (N := some 166) (v := ?_) (a' := ?_) #[true, true, true, true, true, true, false, false, false, false, false] rfl rfl (by kernel_rfl) (fun _ _ _ h => h) (Or.inl ⟨by rfl, ?_⟩) hHeld ?_ ?_
            rotate_left
            · rintro w' ⟨s0, s1, s2, s3, s4⟩
              go_simp
              with_reducible rfl
            rotate_left
            · simp only [Act.put, List.setIfInBounds_toArray, List.set_cons_zero, List.set_cons_succ, i64_w, i32_w]
              rfl
            refine one_ (i := 6) (N := some 167) #[true, true, true, true, true, true, true, false, false, false, false] rfl rfl (by kernel_rfl) (by decide) (fun K hK => ?_)
            refine value_ (w1 := ?_) (v := ?_) (by rfl) rfl ?_ ?_
            rotate_left 2
            · go_simp
              constructor
              · rfl
              · rfl
            refine hK.out _ _ ⟨((World.cell?_alloc_lt wc.drew _ _ (World.block_lt_of_cell? wc _ k6)).trans k6), ((World.cell?_alloc_lt wc.drew _ _ (World.block_lt_of_cell? wc _ x0)).trans x0), ((World.cell?_alloc_lt wc.drew _ _ (World.block_lt_of_cell? wc _ x1)).trans x1), ((World.cell?_alloc_lt wc.drew _ _ (World.block_lt_of_cell? wc _ x2)).trans x2), ((World.cell?_alloc_lt wc.drew _ _ (World.block_lt_of_cell? wc _ x3)).trans x3)⟩ (fun hHeld => ?_)
            clear hK K
            refine norm_ (a' := ?_) ?_ ?_
            rotate_left
            · show Act.put _ (some 167) _ = _
              simp only [Act.put, List.setIfInBounds_toArray, List.set_cons_zero, List.set_cons_succ, i64_w, i32_w]
              rfl
            refine one_ (i := 7) (N := some 168) #[true, true, true, true, true, true, true, true, false, false, false] rfl rfl (by kernel_rfl) (by decide) (fun K hK => ?_)
            refine Kd.R_append_step k23 (W := wc.drew) (w0 := W0) W0.heap.size (by rfl) (.tmp 165) (.tmp 167) 28 23 (.agg #[.int .i64 0, .int .i64 0, .int .i64 0, .int .i64 0]) 32 rfl Try.underlying28 info23 rfl (by decide) (by omega) (.slice A6 L.length c6) L ⟨f0, f1, f2, f3⟩ [.int .i64 f0, .int .i64 f1, .int .i64 f2, .int .i64 f3] (fun k => k ≠ g) (fun _ => False) rfl rfl (k23_mkM _ _ _ ⟨f0, f1, f2, f3⟩) (fun _ hk => hk.elim) HF2.out HO2.out HB2.out HT2.out.below.size HLL.out ?_
            intro v1 w1 ho hb hgr hat
            have hbk := (hgr.block g hg2 HN1.out).trans HT2.out.blk
            have fz := frozen_of_row w1 g 6 _ 61 hbk
            have k6' := cell_grown hgr k6 HN1.out
            obtain ⟨A7, c7, rfl, hl7, -⟩ := Kd.R_reads ho
            refine hK.out _ _ ⟨k6', cell_grown hgr x0 HN2.out, cell_grown hgr x1 HN2.out, cell_grown hgr x2 HN2.out, cell_grown hgr x3 HN2.out⟩ (fun hHeld => ?_)
            clear hK K
            refine norm_ (a' := ?_) ?_ ?_
            rotate_left
            · show Act.put _ (some 168) _ = _
              simp only [Act.put, List.setIfInBounds_toArray, List.set_cons_zero, List.set_cons_succ, i64_w, i32_w]
              rfl
            refine pure_ (i := 8) (N := some 169) (v := ?_) (a' := ?_) #[true, true, true, true, true, true, true, true, true, false, false] rfl rfl (by kernel_rfl) (fun _ _ _ h => h) (Or.inl ⟨by rfl, ?_⟩) ?_ ?_
            rotate_left
            · intro w'
              go_simp
              with_reducible rfl
            rotate_left
            · simp only [Act.put, List.setIfInBounds_toArray, List.set_cons_zero, List.set_cons_succ, i64_w, i32_w]
              rfl
            refine pure_ (i := 9) (N := some 170) (v := ?_) (a' := ?_) #[true, true, true, true, true, true, true, true, true, true, false] rfl rfl (by kernel_rfl) (fun _ _ _ h => h) (Or.inl ⟨by rfl, ?_⟩) ?_ ?_
            rotate_left
            · intro w'
              go_simp
              with_reducible rfl
            rotate_left
            · simp only [Act.put, List.setIfInBounds_toArray, List.set_cons_zero, List.set_cons_succ, i64_w, i32_w]
              rfl
            refine last_ (i := 10) (N := none) #[true, true, true, true, true, true, true, true, true, true, true] rfl rfl (by kernel_rfl) (by decide) (fun K hK => ?_)
            refine skip_ (w1 := ?_) (by rfl) rfl ?_ ?_
            rotate_left
            · go_simp
              rfl
            refine hK.out _ _ ?_
            clear hK K
            refine done_ (by kernel_rfl) ?_
            go_wp2_with fail
            go_end0
            have hp := RT_push (HT2.out.after (below_drew1 (Below.refl _ _))) hb hgr ho
            rw [show (L ++ [(⟨f0, f1, f2, f3⟩ : S23)]).length = L.length + 1 from by simp] at hp hat
            exact ⟨rfl, used, by rw [ET0.out], _, by rw [ET0.out]; exact hp.1, HK2.out.trans hp.2 (.inl rfl), fresh_from hat HK2.out.1⟩
          · have hne : (f2 == 8) = false := beq_eq_false_iff_ne.2 h8
            have hn8 : 8 ≤ n ∧ n ≤ 10 := by
              rw [← hn]
              rcases h16 with h | h | h | h
              · exact absurd h h8
              · rw [h]; decide
              · rw [h]; decide
              · rw [h]; decide
            rw [if_neg (by omega)] at ET0
            have HTY := Aside0.mk (rtypes_any f2)
            obtain ⟨me, hme⟩ : ∃ me, typesE f2 = me := ⟨_, rfl⟩
            rw [hn, hme] at HTY
            clear h16 hn h8 hme
            have hul := HT2.out.le
            have hmx := Kd.C_max HC.out
            go_upto_region 5 with fail
            go_quiet (fail)
            go_upto_if 102 with fail
            have hbd : Below wc.heap.size wc (wc.drewN nq) := pw_below_drewN (Below.refl _ _) nq
            obtain ⟨w3, ew3⟩ : ∃ w3, wc.drewN nq = w3 := ⟨_, rfl⟩
            rw [ew3] at hbd ⊢
            have HT3 := Aside0.mk (HT2.out.after hbd)
            have HK3 := Aside0.mk (HK2.out.trans (KeepBut.of_below hbd g (Value.slice A6 L.length c6).ownBlock) (.inl rfl))
            have HBR3 := Aside0.mk ((hbd.block _ (blk_lt HBR.out)).trans HBR.out)
            clear hbd ew3 HT2 HK2 HBR x0 x1 x2 x3 y0 y1 y2 y3 k0 k1 k2 k3 k4 k5 k6 hg2
            have hwl : w.heap.size < w3.heap.size := blk_lt HBR3.out
            go_cut [7] (fun s7 wx => ∃ (x : Int) (used1 : Nat), s7 = .int .i64 x ∧ Aside0 (nextK n (cs.drop used) = x % n) ∧ Aside0 (cs.drop used1 = (cs.drop used).tail) ∧ Aside0 (RT W0 g ⟨b0, b1, b2, b3⟩ A c cs used1 (.slice A6 L.length c6) L wx) ∧ Aside0 (KeepBut w3 wx g none))
            case first =>
              obtain ⟨k0, k1, k2, k3, k4, k5, k6⟩ := tree_cells HT3.out
              clear k0 k1 k2 k3 k6
              by_cases hu : used < cs.length
              · have hui : (used : Int) < (cs.length : Int) := by omega
                obtain ⟨ad, e, hx⟩ := Kd.at_int (Kd.C_below HC.out HT3.out.below) (used : Int) (by omega) (by omega)
                subst e
                have hnx := next_cons n cs used hu
                rw [show rd cs (used : Int) = cs.getD used 0 by unfold rd; rw [Int.toNat_natCast]] at hx
                obtain ⟨x, ex⟩ : ∃ x, cs.getD used 0 = x := ⟨_, rfl⟩
                rw [ex] at hx hnx
                rw [Int.toNat_natCast] at hx
                have HNX := Aside0.mk hnx
                clear ex hnx
                go_wp2_with fail
                go_quiet (fail)
                go_upto_region 7 with fail
                have hbd : Below w3.heap.size w3 (w3.drewN nq) := pw_below_drewN (Below.refl _ _) nq
                obtain ⟨w4, ew4⟩ : ∃ w4, w3.drewN nq = w4 := ⟨_, rfl⟩
                rw [ew4] at hbd ⊢
                have HT4 := Aside0.mk (HT3.out.after hbd)
                have HK4 := Aside0.mk (KeepBut.of_below hbd g none)
                clear hbd ew4 k4 k5 hx
                obtain ⟨k0, k1, k2, k3, k4, k5, k6⟩ := tree_cells HT4.out
                have fz := frozen_of_row w4 g 5 _ 61 HT4.out.blk
                clear k0 k1 k2 k3 k4 k6
                go_wp2_with fail
                go_meet
                exact ⟨x, used + 1, rfl, ⟨HNX.out.1⟩, ⟨HNX.out.2⟩, ⟨RT_used HT4.out hu⟩, ⟨HK4.out.set_ _ _⟩⟩
              · have hui : ¬ (used : Int) < (cs.length : Int) := by omega
                have HNX := Aside0.mk (next_nil n cs used hu)
                go_wp2_with fail
                go_meet
                exact ⟨0, used, rfl, ⟨HNX.out.1⟩, ⟨HNX.out.2⟩, HT3, ⟨KeepBut.refl _ _ _⟩⟩
            case rest =>
              obtain ⟨x, used1, rfl, HNX, HDR, HT4, HK4⟩ := hcut
              obtain ⟨x0, x1, x2, x3⟩ := box_cells (HK4.out.blk HBR3.out (by omega) (by simp))
              go_wp2_with fail
              refine (HTY.out _).mono ?_
              rintro e w4 ⟨rfl, hd4⟩
              have hb4 := hd4.below
              clear hd4
              go_wp2_with fail
              refine (bring_any x n _ (by omega) (by omega)).mono ?_
              rintro e w5 ⟨rfl, hd5⟩
              have hb5 := below_step hb4 hd5.below
              have hk0 : 0 ≤ x % n := Int.emod_nonneg _ (by omega)
              have hk1 : x % n < n := Int.emod_lt_of_pos _ (by omega)
              obtain ⟨K, hK⟩ : ∃ K, x % n = K := ⟨_, rfl⟩
              rw [hK] at HNX hk0 hk1 ⊢
              have HT5 := Aside0.mk (HT4.out.after hb5)
              have HK5 := Aside0.mk ((HK3.out.trans (keep_any (row := (Value.slice A6 L.length c6).ownBlock) HK4.out) (.inl rfl)).trans (KeepBut.of_below hb5 g (Value.slice A6 L.length c6).ownBlock) (.inl rfl))
              have hbx := (hb5.block _ (blk_lt (HK4.out.blk HBR3.out (by omega) (by simp)))).trans (HK4.out.blk HBR3.out (by omega) (by simp))
              have HBX := Aside0.mk hbx
              clear hd5 hb4 hb5 hK x0 x1 x2 x3 HT4 HK4 HK3 HBR3 HT3 hbx hul
              obtain ⟨x0, x1, x2, x3⟩ := box_cells HBX.out
              by_cases h3 : K = 3
              · have ET1 : Aside0 (T = foldQ sub (cutAns ⟨f0, f1, f2, f3⟩ 3) (cs.drop used).tail) := ⟨by rw [ET0.out, if_pos (by rw [HNX.out]; exact h3)]⟩
                subst h3
                clear hk0 hk1
                go_wp2_with fail
                refine (HQ.out used1 _ L _ HL.out HT5.out).mono ?_
                rintro e w6 ⟨rfl, used', v', h1, h2, h3, h4⟩
                have H1 := Aside0.mk h1
                have H2 := Aside0.mk h2
                have H3 := Aside0.mk h3
                have H4 := Aside0.mk h4
                clear h1 h2 h3 h4
                go_wp2_with fail
                refine bodyPost_ret (results_none rfl _ _ _) rfl ?_
                have h2' := H2.out
                have h1' := H1.out
                rw [HDR.out] at h1' h2'
                exact ⟨rfl, used', v', by rw [ET1.out]; exact h1', by rw [ET1.out]; exact h2', HK5.out.trans H3.out (.inl rfl), fresh_from H4.out HK5.out.1⟩
              · have hne3 : (K == 3) = false := beq_eq_false_iff_ne.2 h3
                have hca : cutAns ⟨f0, f1, f2, f3⟩ K = cutsL ⟨f0, f1, f2, f3⟩ K := by
                  unfold cutAns cutOk
                  dsimp only
                  rw [HRB.out, HN.out, decide_eq_true hk0, decide_eq_true hk1]; rfl
                have hlc := cutsL_len ⟨f0, f1, f2, f3⟩ K
                have hq := rcuts_any ⟨f0, f1, f2, f3⟩ K w5
                rw [hca] at hq
                obtain ⟨M, hM⟩ : ∃ M, cutsL ⟨f0, f1, f2, f3⟩ K = M := ⟨_, rfl⟩
                have ET1 : Aside0 (T = (M, (cs.drop used).tail)) := ⟨by rw [ET0.out, if_neg (by rw [HNX.out]; exact h3), HNX.out, hM]⟩
                rw [hM] at hq hlc
                have HCU := Aside0.mk hq
                clear hca hM h3 hk0 hk1 hq
                go_wp2_with fail
                refine HCU.out.mono ?_
                rintro e w7 ⟨v7, rfl, hr7, hb7⟩
                obtain ⟨A8, c8, rfl, hl8, hC8⟩ := Kd.R_reads hr7
                have HC8 := Aside0.mk hC8
                have HT7 := Aside0.mk (HT5.out.after hb7)
                have HK7 := Aside0.mk (HK5.out.trans (KeepBut.of_below hb7 g (Value.slice A6 L.length c6).ownBlock) (.inl rfl))
                clear hr7 hb7 hC8 x0 x1 x2 x3
                obtain ⟨k0, k1, k2, k3, k4, k5, k6⟩ := tree_cells HT7.out
                clear k0 k1 k2 k3 k4 k5
                have HG7 := Aside0.mk HT7.out.glt
                have HN7 : Aside0 (some g ≠ (Value.slice A6 L.length c6).ownBlock) := ⟨fun e => HT7.out.own.1 g e.symm rfl⟩
                have HF7 : Aside0 (∀ k, w7.heap.size ≤ k → k ≠ g) := ⟨fun k hk e => by subst e; exact absurd HG7.out (Nat.not_lt.2 hk)⟩
                have HL7 : Aside0 ((L.length + M.length) * 32 ≤ 140737488355328) := ⟨by have := HL.out; omega⟩
                have km : ∀ {W : World} {B : Nat} {x : S23} {cs : List Value} {ok : Nat → Prop}, k23.K W x cs → k23.M W B ok x cs := fun h => by rw [k23_open h]; exact k23_mkM _ _ _ _
                have KM := Aside0.mk @km
                clear km
                go_wp2_with ((with_reducible refine gate_builtin (b := .append) (xs := #[.tmp 144, .tmp 145]) rfl ?_); at_builtin; refine Kd.R_append_rows k23 (w0 := W0) W0.heap.size rfl (.tmp 144) (.tmp 145) 28 23 (.agg #[.int .i64 0, .int .i64 0, .int .i64 0, .int .i64 0]) 32 rfl Try.underlying28 info23 rfl (by decide) (by omega) (.slice A6 L.length c6) L M A8 M.length c8 (fun k => k ≠ g) (fun _ => False) rfl rfl HT7.out.own HC8.out (fun _ _ h => KM.out h) (fun _ hk => hk.elim) HF7.out HT7.out.below HT7.out.below.size HL7.out ?_; intro v9 w9 ho hb9 hgr hat; have hbk := (hgr.block g HG7.out HN7.out).trans HT7.out.blk; have fz := frozen_of_row w9 g 6 _ 61 hbk; have k6' := (blk_cell hbk 6).trans rfl; obtain ⟨A9, c9, rfl, hl9, -⟩ := Kd.R_reads ho; clear k6 hbk)
                go_end0
                have hp := RT_push HT7.out hb9 hgr ho
                rw [show (L ++ M).length = L.length + M.length from List.length_append] at hp hat
                exact ⟨rfl, used1, by rw [ET1.out]; exact HDR.out, _, by rw [ET1.out]; exact hp.1, HK7.out.trans hp.2 (.inl rfl), fresh_from hat HK7.out.1⟩
end Go.Proofs.Ytjobfnicnoffmaa.Gs
