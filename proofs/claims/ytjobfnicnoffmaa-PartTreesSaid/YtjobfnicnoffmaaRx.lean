/- The walk of the reference's Cuts: any rectangle, any partition. -/
import Derived.Test.YtjobfnicnoffmaaWk
namespace Go.Proofs.Ytjobfnicnoffmaa.Rx
open Go.RowKit Go.Proofs.Ytjobfnicnoffmaa.PPartTrees Go.Proofs.YtjobfnicnoffmaaW.PrintWords Go.Proofs.YtjobfnicnoffmaaW.PrintLast Go.Proofs.YtjobfnicnoffmaaW.PrintMore Go.Proofs.Ytjobfnicnoffmaa.Pt Go.Proofs.Ytjobfnicnoffmaa.Ph Go.Proofs.Ytjobfnicnoffmaa.Li Go.Proofs.Ytjobfnicnoffmaa.Pc Go.Proofs.Ytjobfnicnoffmaa.Tr

theorem rrect_any (x y w h : Int) (W : World) : Calls Try.prog 33 #[.int .i64 x, .int .i64 y, .int .i64 w, .int .i64 h] W fun e w' => e = .returned (.agg #[.int .i64 x, .int .i64 y, .int .i64 w, .int .i64 h]) ∧ Below W.heap.size W w' := zoetroperef16_rect.calls x y w h x y w h W rfl
set_option maxRecDepth 100000 in
set_option maxHeartbeats 2000000 in
theorem rcuts_no (r : S23) (kind : Int) (w : World) (ho : cutOk r kind = false) :
    Calls Try.prog 18 #[aggS r, .int .i64 kind] w fun e w' => e = .returned (.tuple #[.slice none 0 0, .int .i64 2]) ∧ Below w.heap.size w w' := by
  have HT := Aside0.mk (rtypes_any r.f2)
  have HR := Aside0.mk (fun w => rregion_any r w)
  unfold cutOk at ho
  obtain ⟨n, hn⟩ : ∃ n, typesN r.f2 = n := ⟨_, rfl⟩
  obtain ⟨m, hm⟩ : ∃ m, typesE r.f2 = m := ⟨_, rfl⟩
  rw [hn, hm] at HT
  rw [hn] at ho
  clear hn hm
  obtain ⟨f0, f1, f2, f3⟩ := r
  dsimp only [aggS] at HT HR ho ⊢
  cases hr : regB ⟨f0, f1, f2, f3⟩ with
  | false =>
    rw [hr] at HR
    clear hr ho
    go_enter Try.func18, Try.ntmps18
    go_wp2_with fail
    refine (HT.out _).mono ?_
    rintro e w' ⟨rfl, ⟨nd, rfl⟩⟩
    go_wp2_with fail
    refine (HR.out _).mono ?_
    rintro e w2 ⟨rfl, hb⟩
    go_wp2_with fail
    go_ret2
    exact ⟨rfl, below_step (pw_below_drewN (below_alloc (Below.refl _ _) _) nd) hb⟩
  | true =>
    rw [hr] at HR ho
    clear hr
    simp only [Bool.true_and, Bool.and_eq_false_iff, decide_eq_false_iff_not] at ho
    by_cases hk : kind < 0
    · clear ho
      go_enter Try.func18, Try.ntmps18
      go_wp2_with fail
      refine (HT.out _).mono ?_
      rintro e w' ⟨rfl, ⟨nd, rfl⟩⟩
      go_wp2_with fail
      refine (HR.out _).mono ?_
      rintro e w2 ⟨rfl, hb⟩
      go_wp2_with fail
      go_ret2
      exact ⟨rfl, below_step (pw_below_drewN (below_alloc (Below.refl _ _) _) nd) hb⟩
    · have hk2 : kind ≥ n := by omega
      clear ho
      go_enter Try.func18, Try.ntmps18
      go_wp2_with fail
      refine (HT.out _).mono ?_
      rintro e w' ⟨rfl, ⟨nd, rfl⟩⟩
      go_wp2_with fail
      refine (HR.out _).mono ?_
      rintro e w2 ⟨rfl, hb⟩
      go_wp2_with fail
      go_ret2
      exact ⟨rfl, below_step (pw_below_drewN (below_alloc (Below.refl _ _) _) nd) hb⟩
/-- The parts, written out (q, h: a quarter and a half of the side). -/
def forms (f0 f1 f2 f3 q h kind : Int) : List S23 :=
  if kind = 0 then [⟨f0, f1, f2, f3⟩]
  else if kind = 1 then [⟨f0, f1, f2, h⟩, ⟨f0, f1 + h, f2, h⟩]
  else if kind = 2 then [⟨f0, f1, h, f2⟩, ⟨f0 + h, f1, h, f2⟩]
  else if kind = 3 then [⟨f0, f1, h, h⟩, ⟨f0 + h, f1, h, h⟩, ⟨f0, f1 + h, h, h⟩, ⟨f0 + h, f1 + h, h, h⟩]
  else if kind = 4 then [⟨f0, f1, h, h⟩, ⟨f0 + h, f1, h, h⟩, ⟨f0, f1 + h, f2, h⟩]
  else if kind = 5 then [⟨f0, f1, f2, h⟩, ⟨f0, f1 + h, h, h⟩, ⟨f0 + h, f1 + h, h, h⟩]
  else if kind = 6 then [⟨f0, f1, h, h⟩, ⟨f0, f1 + h, h, h⟩, ⟨f0 + h, f1, h, f2⟩]
  else if kind = 7 then [⟨f0, f1, h, f2⟩, ⟨f0 + h, f1, h, h⟩, ⟨f0 + h, f1 + h, h, h⟩]
  else if kind = 8 then [⟨f0, f1, f2, q⟩, ⟨f0, f1 + q, f2, q⟩, ⟨f0, f1 + 2 * q, f2, q⟩, ⟨f0, f1 + 3 * q, f2, q⟩]
  else [⟨f0, f1, q, f2⟩, ⟨f0 + q, f1, q, f2⟩, ⟨f0 + 2 * q, f1, q, f2⟩, ⟨f0 + 3 * q, f1, q, f2⟩]
theorem cut_forms (f0 f1 f2 f3 q h kind : Int) (hq : f2 / 4 = q) (e : f2 = 4 * q) (eh : h = 2 * q) : cutsL ⟨f0, f1, f2, f3⟩ kind = forms f0 f1 f2 f3 q h kind := by
  unfold cutsL forms quads
  by_cases h0 : kind = 0
  · rw [if_pos h0, if_pos h0]
  · rw [if_neg h0, if_neg h0]
    subst eh
    unfold piece
    dsimp only
    rw [hq]
    clear hq
    by_cases h1 : kind = 1
    · rw [if_pos h1, if_pos h1]
      simp only [List.map_cons, List.map_nil, List.cons.injEq, S23.mk.injEq, and_true]
      and_intros <;> first | trivial | omega
    · rw [if_neg h1, if_neg h1]
      by_cases h2 : kind = 2
      · rw [if_pos h2, if_pos h2]
        simp only [List.map_cons, List.map_nil, List.cons.injEq, S23.mk.injEq, and_true]
        and_intros <;> first | trivial | omega
      · rw [if_neg h2, if_neg h2]
        by_cases h3 : kind = 3
        · rw [if_pos h3, if_pos h3]
          simp only [List.map_cons, List.map_nil, List.cons.injEq, S23.mk.injEq, and_true]
          and_intros <;> first | trivial | omega
        · rw [if_neg h3, if_neg h3]
          by_cases h4 : kind = 4
          · rw [if_pos h4, if_pos h4]
            simp only [List.map_cons, List.map_nil, List.cons.injEq, S23.mk.injEq, and_true]
            and_intros <;> first | trivial | omega
          · rw [if_neg h4, if_neg h4]
            by_cases h5 : kind = 5
            · rw [if_pos h5, if_pos h5]
              simp only [List.map_cons, List.map_nil, List.cons.injEq, S23.mk.injEq, and_true]
              and_intros <;> first | trivial | omega
            · rw [if_neg h5, if_neg h5]
              by_cases h6 : kind = 6
              · rw [if_pos h6, if_pos h6]
                simp only [List.map_cons, List.map_nil, List.cons.injEq, S23.mk.injEq, and_true]
                and_intros <;> first | trivial | omega
              · rw [if_neg h6, if_neg h6]
                by_cases h7 : kind = 7
                · rw [if_pos h7, if_pos h7]
                  simp only [List.map_cons, List.map_nil, List.cons.injEq, S23.mk.injEq, and_true]
                  and_intros <;> first | trivial | omega
                · rw [if_neg h7, if_neg h7]
                  by_cases h8 : kind = 8
                  · rw [if_pos h8, if_pos h8]
                    simp only [List.map_cons, List.map_nil, List.cons.injEq, S23.mk.injEq, and_true]
                    and_intros <;> first | trivial | omega
                  · rw [if_neg h8, if_neg h8]
                    simp only [List.map_cons, List.map_nil, List.cons.injEq, S23.mk.injEq, and_true]
                    and_intros <;> first | trivial | omega
set_option maxRecDepth 100000 in
set_option maxHeartbeats 8000000 in
theorem rcuts_ok (r : S23) (kind : Int) (w : World) (hr : regB r = true) (hk0 : 0 ≤ kind) (hk1 : kind < typesN r.f2) :
    Calls Try.prog 18 #[aggS r, .int .i64 kind] w fun e w' => ∃ v, e = .returned (.tuple #[v, .int .i64 0]) ∧ Kd.R k23 23 w' w.heap.size (fun _ => True) v (cutsL r kind) ∧ Below w.heap.size w w' := by
  have HT := Aside0.mk (rtypes_any r.f2)
  have HR := Aside0.mk (fun w => rregion_any r w)
  rw [hr] at HR
  have hn10 : typesN r.f2 ≤ 10 := by unfold typesN; repeat' split <;> omega
  obtain ⟨n, hn⟩ : ∃ n, typesN r.f2 = n := ⟨_, rfl⟩
  obtain ⟨m, hm⟩ : ∃ m, typesE r.f2 = m := ⟨_, rfl⟩
  rw [hn, hm] at HT
  rw [hn] at hk1 hn10
  obtain ⟨hw, -, hx, hy⟩ := regB_iff.1 hr
  clear hn hm hr
  obtain ⟨f0, f1, f2, f3⟩ := r
  dsimp only [aggS] at HT HR hw hx hy ⊢
  obtain ⟨q, hq⟩ : ∃ q, f2 / 4 = q := ⟨_, rfl⟩
  obtain ⟨h, hh⟩ : ∃ h, f2 / 2 = h := ⟨_, rfl⟩
  have hfq : f2 = 4 * q ∧ h = 2 * q ∧ 2 ≤ q ∧ q ≤ 16 := by omega
  have HFQ := Aside0.mk hfq
  have b1 : 8 ≤ f2 ∧ f2 ≤ 64 := by omega
  have b2 : 4 ≤ h ∧ h ≤ 32 := by omega
  have b3 : 2 ≤ q ∧ q ≤ 16 := by omega
  obtain ⟨-, hx1, hx2⟩ := hx
  obtain ⟨-, hy1, hy2⟩ := hy
  have hk2 : ¬ kind < 0 := by omega
  have hk3 : ¬ kind ≥ n := by omega
  clear hfq hw
  go_enter Try.func18, Try.ntmps18
  go_wp2_with fail
  refine (HT.out _).mono ?_
  rintro e w' ⟨rfl, ⟨nd, rfl⟩⟩
  go_wp2_with fail
  refine (HR.out _).mono ?_
  rintro e w2 ⟨rfl, hb⟩
  have hb2 := below_step (pw_below_drewN (below_alloc (Below.refl _ _) _) nd) hb
  have hbox : w2.heap[w.heap.size]? = some (.cells #[.int .i64 f0, .int .i64 f1, .int .i64 f2, .int .i64 f3] 23 (0, 0)) := (hb.block _ (by simp)).trans (heap_alloc_new w _)
  obtain ⟨x0, x1, x2, x3⟩ := box_cells hbox
  have HBOX := Aside0.mk hbox
  have HB2 := Aside0.mk hb2
  clear hbox hb2 hb
  go_wp2_with fail
  go_quiet (fail)
  go_wp2_with fail
  refine (rrect_any _ _ _ _ _).mono ?_
  rintro e w3 ⟨rfl, hb3⟩
  have HB3 := Aside0.mk (below_step (pw_below_drewN HB2.out _) hb3)
  have HBOX3 := Aside0.mk ((hb3.block _ (blk_lt HBOX.out)).trans HBOX.out)
  clear hb3
  go_wp2_with fail
  refine (rrect_any _ _ _ _ _).mono ?_
  rintro e w4 ⟨rfl, hb4⟩
  have HB4 := Aside0.mk (below_step HB3.out hb4)
  have HBOX4 := Aside0.mk ((hb4.block _ (blk_lt HBOX3.out)).trans HBOX3.out)
  clear hb4 HB3 HBOX3 HBOX HB2 x0 x1 x2 x3
  go_upto_region 7 with fail
  have h0 := heap_alloc_new w4 (.cells #[.int .i64 f0, .int .i64 f1, .int .i64 f2, .int .i64 h] 23)
  have k0 := old (o := .cells #[.int .i64 f0, .int .i64 (f1 + h), .int .i64 f2, .int .i64 h] 23) (h0)
  have h1 := heap_alloc_new (w4.alloc (.cells #[.int .i64 f0, .int .i64 f1, .int .i64 f2, .int .i64 h] 23)) (.cells #[.int .i64 f0, .int .i64 (f1 + h), .int .i64 f2, .int .i64 h] 23)
  rw [World.size_alloc] at h1
  have k1 := h1
  have hb : Below w4.heap.size w4 ((w4.alloc (.cells #[.int .i64 f0, .int .i64 f1, .int .i64 f2, .int .i64 h] 23)).alloc (.cells #[.int .i64 f0, .int .i64 (f1 + h), .int .i64 f2, .int .i64 h] 23)) := below_alloc (below_alloc (Below.refl _ _) _) _
  obtain ⟨u5, eW⟩ : ∃ x, ((w4.alloc (.cells #[.int .i64 f0, .int .i64 f1, .int .i64 f2, .int .i64 h] 23)).alloc (.cells #[.int .i64 f0, .int .i64 (f1 + h), .int .i64 f2, .int .i64 h] 23)) = x := ⟨_, rfl⟩
  rw [eW] at k0 k1 hb ⊢
  have UP0 := Aside0.mk k0
  have LO0 := Aside0.mk k1
  clear eW h0 k0 h1 k1
  have HB5 := Aside0.mk (below_step HB4.out hb)
  have HBOX5 := Aside0.mk ((hb.block _ (blk_lt HBOX4.out)).trans HBOX4.out)
  clear HB4 HBOX4 hb
  go_wp2_with fail
  refine (rrect_any _ _ _ _ _).mono ?_
  rintro e w6 ⟨rfl, hb⟩
  have HB6 := Aside0.mk (below_step HB5.out hb)
  have HBOX6 := Aside0.mk ((hb.block _ (blk_lt HBOX5.out)).trans HBOX5.out)
  have UP6 := Aside0.mk ((hb.block _ (blk_lt UP0.out)).trans UP0.out)
  have LO6 := Aside0.mk ((hb.block _ (blk_lt LO0.out)).trans LO0.out)
  clear HB5 HBOX5 UP0 LO0 hb
  go_wp2_with fail
  refine (rrect_any _ _ _ _ _).mono ?_
  rintro e w7 ⟨rfl, hb⟩
  have HB7 := Aside0.mk (below_step HB6.out hb)
  have HBOX7 := Aside0.mk ((hb.block _ (blk_lt HBOX6.out)).trans HBOX6.out)
  have UP7 := Aside0.mk ((hb.block _ (blk_lt UP6.out)).trans UP6.out)
  have LO7 := Aside0.mk ((hb.block _ (blk_lt LO6.out)).trans LO6.out)
  clear HB6 HBOX6 UP6 LO6 hb
  go_upto_region 8 with fail
  have h0 := heap_alloc_new w7 (.cells #[.int .i64 f0, .int .i64 f1, .int .i64 h, .int .i64 f2] 23)
  have k0 := old (o := .cells #[.int .i64 (f0 + h), .int .i64 f1, .int .i64 h, .int .i64 f2] 23) (h0)
  have h1 := heap_alloc_new (w7.alloc (.cells #[.int .i64 f0, .int .i64 f1, .int .i64 h, .int .i64 f2] 23)) (.cells #[.int .i64 (f0 + h), .int .i64 f1, .int .i64 h, .int .i64 f2] 23)
  rw [World.size_alloc] at h1
  have k1 := h1
  have hb : Below w7.heap.size w7 ((w7.alloc (.cells #[.int .i64 f0, .int .i64 f1, .int .i64 h, .int .i64 f2] 23)).alloc (.cells #[.int .i64 (f0 + h), .int .i64 f1, .int .i64 h, .int .i64 f2] 23)) := below_alloc (below_alloc (Below.refl _ _) _) _
  obtain ⟨u8, eW⟩ : ∃ x, ((w7.alloc (.cells #[.int .i64 f0, .int .i64 f1, .int .i64 h, .int .i64 f2] 23)).alloc (.cells #[.int .i64 (f0 + h), .int .i64 f1, .int .i64 h, .int .i64 f2] 23)) = x := ⟨_, rfl⟩
  rw [eW] at k0 k1 hb ⊢
  have LE0 := Aside0.mk k0
  have RI0 := Aside0.mk k1
  clear eW h0 k0 h1 k1
  have HB8 := Aside0.mk (below_step HB7.out hb)
  have HBOX8 := Aside0.mk ((hb.block _ (blk_lt HBOX7.out)).trans HBOX7.out)
  have UP8 := Aside0.mk ((hb.block _ (blk_lt UP7.out)).trans UP7.out)
  have LO8 := Aside0.mk ((hb.block _ (blk_lt LO7.out)).trans LO7.out)
  clear HB7 HBOX7 UP7 LO7 hb
  go_wp2_with fail
  refine (rrect_any _ _ _ _ _).mono ?_
  rintro e w9 ⟨rfl, hb⟩
  have HB9 := Aside0.mk (below_step HB8.out hb)
  have HBOX9 := Aside0.mk ((hb.block _ (blk_lt HBOX8.out)).trans HBOX8.out)
  have UP9 := Aside0.mk ((hb.block _ (blk_lt UP8.out)).trans UP8.out)
  have LO9 := Aside0.mk ((hb.block _ (blk_lt LO8.out)).trans LO8.out)
  have LE9 := Aside0.mk ((hb.block _ (blk_lt LE0.out)).trans LE0.out)
  have RI9 := Aside0.mk ((hb.block _ (blk_lt RI0.out)).trans RI0.out)
  clear HB8 HBOX8 UP8 LO8 LE0 RI0 hb
  go_wp2_with fail
  refine (rrect_any _ _ _ _ _).mono ?_
  rintro e w10 ⟨rfl, hb⟩
  have HB10 := Aside0.mk (below_step HB9.out hb)
  have HBOX10 := Aside0.mk ((hb.block _ (blk_lt HBOX9.out)).trans HBOX9.out)
  have UP10 := Aside0.mk ((hb.block _ (blk_lt UP9.out)).trans UP9.out)
  have LO10 := Aside0.mk ((hb.block _ (blk_lt LO9.out)).trans LO9.out)
  have LE10 := Aside0.mk ((hb.block _ (blk_lt LE9.out)).trans LE9.out)
  have RI10 := Aside0.mk ((hb.block _ (blk_lt RI9.out)).trans RI9.out)
  clear HB9 HBOX9 UP9 LO9 LE9 RI9 hb
  go_wp2_with fail
  refine (rrect_any _ _ _ _ _).mono ?_
  rintro e w11 ⟨rfl, hb⟩
  have HB11 := Aside0.mk (below_step HB10.out hb)
  have HBOX11 := Aside0.mk ((hb.block _ (blk_lt HBOX10.out)).trans HBOX10.out)
  have UP11 := Aside0.mk ((hb.block _ (blk_lt UP10.out)).trans UP10.out)
  have LO11 := Aside0.mk ((hb.block _ (blk_lt LO10.out)).trans LO10.out)
  have LE11 := Aside0.mk ((hb.block _ (blk_lt LE10.out)).trans LE10.out)
  have RI11 := Aside0.mk ((hb.block _ (blk_lt RI10.out)).trans RI10.out)
  clear HB10 HBOX10 UP10 LO10 LE10 RI10 hb
  go_wp2_with fail
  refine (rrect_any _ _ _ _ _).mono ?_
  rintro e w12 ⟨rfl, hb⟩
  have HB12 := Aside0.mk (below_step HB11.out hb)
  have HBOX12 := Aside0.mk ((hb.block _ (blk_lt HBOX11.out)).trans HBOX11.out)
  have UP12 := Aside0.mk ((hb.block _ (blk_lt UP11.out)).trans UP11.out)
  have LO12 := Aside0.mk ((hb.block _ (blk_lt LO11.out)).trans LO11.out)
  have LE12 := Aside0.mk ((hb.block _ (blk_lt LE11.out)).trans LE11.out)
  have RI12 := Aside0.mk ((hb.block _ (blk_lt RI11.out)).trans RI11.out)
  clear HB11 HBOX11 UP11 LO11 LE11 RI11 hb
  go_upto_region 9 with fail
  have h0 := heap_alloc_new w12 (.cells #[.int .i64 f0, .int .i64 f1, .int .i64 h, .int .i64 h] 23)
  have k0 := old (o := .cells #[.int .i64 (f0 + h), .int .i64 (f1 + h), .int .i64 h, .int .i64 h] 23) (old (o := .cells #[.int .i64 f0, .int .i64 (f1 + h), .int .i64 h, .int .i64 h] 23) (old (o := .cells #[.int .i64 (f0 + h), .int .i64 f1, .int .i64 h, .int .i64 h] 23) (h0)))
  have h1 := heap_alloc_new (w12.alloc (.cells #[.int .i64 f0, .int .i64 f1, .int .i64 h, .int .i64 h] 23)) (.cells #[.int .i64 (f0 + h), .int .i64 f1, .int .i64 h, .int .i64 h] 23)
  rw [World.size_alloc] at h1
  have k1 := old (o := .cells #[.int .i64 (f0 + h), .int .i64 (f1 + h), .int .i64 h, .int .i64 h] 23) (old (o := .cells #[.int .i64 f0, .int .i64 (f1 + h), .int .i64 h, .int .i64 h] 23) (h1))
  have h2 := heap_alloc_new ((w12.alloc (.cells #[.int .i64 f0, .int .i64 f1, .int .i64 h, .int .i64 h] 23)).alloc (.cells #[.int .i64 (f0 + h), .int .i64 f1, .int .i64 h, .int .i64 h] 23)) (.cells #[.int .i64 f0, .int .i64 (f1 + h), .int .i64 h, .int .i64 h] 23)
  rw [World.size_alloc, World.size_alloc] at h2
  have k2 := old (o := .cells #[.int .i64 (f0 + h), .int .i64 (f1 + h), .int .i64 h, .int .i64 h] 23) (h2)
  have h3 := heap_alloc_new (((w12.alloc (.cells #[.int .i64 f0, .int .i64 f1, .int .i64 h, .int .i64 h] 23)).alloc (.cells #[.int .i64 (f0 + h), .int .i64 f1, .int .i64 h, .int .i64 h] 23)).alloc (.cells #[.int .i64 f0, .int .i64 (f1 + h), .int .i64 h, .int .i64 h] 23)) (.cells #[.int .i64 (f0 + h), .int .i64 (f1 + h), .int .i64 h, .int .i64 h] 23)
  rw [World.size_alloc, World.size_alloc, World.size_alloc] at h3
  have k3 := h3
  have hb : Below w12.heap.size w12 ((((w12.alloc (.cells #[.int .i64 f0, .int .i64 f1, .int .i64 h, .int .i64 h] 23)).alloc (.cells #[.int .i64 (f0 + h), .int .i64 f1, .int .i64 h, .int .i64 h] 23)).alloc (.cells #[.int .i64 f0, .int .i64 (f1 + h), .int .i64 h, .int .i64 h] 23)).alloc (.cells #[.int .i64 (f0 + h), .int .i64 (f1 + h), .int .i64 h, .int .i64 h] 23)) := below_alloc (below_alloc (below_alloc (below_alloc (Below.refl _ _) _) _) _) _
  obtain ⟨u13, eW⟩ : ∃ x, ((((w12.alloc (.cells #[.int .i64 f0, .int .i64 f1, .int .i64 h, .int .i64 h] 23)).alloc (.cells #[.int .i64 (f0 + h), .int .i64 f1, .int .i64 h, .int .i64 h] 23)).alloc (.cells #[.int .i64 f0, .int .i64 (f1 + h), .int .i64 h, .int .i64 h] 23)).alloc (.cells #[.int .i64 (f0 + h), .int .i64 (f1 + h), .int .i64 h, .int .i64 h] 23)) = x := ⟨_, rfl⟩
  rw [eW] at k0 k1 k2 k3 hb ⊢
  have BA0 := Aside0.mk k0
  have BB0 := Aside0.mk k1
  have BC0 := Aside0.mk k2
  have BD0 := Aside0.mk k3
  clear eW h0 k0 h1 k1 h2 k2 h3 k3
  have HB13 := Aside0.mk (below_step HB12.out hb)
  have HBOX13 := Aside0.mk ((hb.block _ (blk_lt HBOX12.out)).trans HBOX12.out)
  have UP13 := Aside0.mk ((hb.block _ (blk_lt UP12.out)).trans UP12.out)
  have LO13 := Aside0.mk ((hb.block _ (blk_lt LO12.out)).trans LO12.out)
  have LE13 := Aside0.mk ((hb.block _ (blk_lt LE12.out)).trans LE12.out)
  have RI13 := Aside0.mk ((hb.block _ (blk_lt RI12.out)).trans RI12.out)
  clear HB12 HBOX12 UP12 LO12 LE12 RI12 hb
  obtain ⟨x0_0, x0_1, x0_2, x0_3⟩ := box_cells HBOX13.out
  obtain ⟨x1_0, x1_1, x1_2, x1_3⟩ := box_cells UP13.out
  obtain ⟨x2_0, x2_1, x2_2, x2_3⟩ := box_cells LO13.out
  obtain ⟨x3_0, x3_1, x3_2, x3_3⟩ := box_cells LE13.out
  obtain ⟨x4_0, x4_1, x4_2, x4_3⟩ := box_cells RI13.out
  obtain ⟨x5_0, x5_1, x5_2, x5_3⟩ := box_cells BA0.out
  obtain ⟨x6_0, x6_1, x6_2, x6_3⟩ := box_cells BB0.out
  obtain ⟨x7_0, x7_1, x7_2, x7_3⟩ := box_cells BC0.out
  obtain ⟨x8_0, x8_1, x8_2, x8_3⟩ := box_cells BD0.out
  have hcl := HFQ.out
  have HREG := Aside0.mk (fun kind => cut_forms f0 f1 f2 f3 q h kind hq hcl.1 hcl.2.1)
  clear hcl
  rcases (show kind = 0 ∨ kind = 1 ∨ kind = 2 ∨ kind = 3 ∨ kind = 4 ∨ kind = 5 ∨ kind = 6 ∨ kind = 7 ∨ kind = 8 ∨ kind = 9 by omega) with rfl | rfl | rfl | rfl | rfl | rfl | rfl | rfl | rfl | rfl
  · go_wp2_with fail
    go_ret2
    exact ⟨_, rfl, by rw [HREG.out 0]; exact lit_R23 [⟨f0, f1, f2, f3⟩] u13 w.heap.size (fun _ => True) HB13.out.size trivial (by simp), below_alloc HB13.out _⟩
  · go_wp2_with fail
    go_ret2
    exact ⟨_, rfl, by rw [HREG.out 1]; exact lit_R23 [⟨f0, f1, f2, h⟩, ⟨f0, f1 + h, f2, h⟩] u13 w.heap.size (fun _ => True) HB13.out.size trivial (by simp), below_alloc HB13.out _⟩
  · go_wp2_with fail
    go_ret2
    exact ⟨_, rfl, by rw [HREG.out 2]; exact lit_R23 [⟨f0, f1, h, f2⟩, ⟨f0 + h, f1, h, f2⟩] u13 w.heap.size (fun _ => True) HB13.out.size trivial (by simp), below_alloc HB13.out _⟩
  · go_wp2_with fail
    go_ret2
    exact ⟨_, rfl, by rw [HREG.out 3]; exact lit_R23 [⟨f0, f1, h, h⟩, ⟨f0 + h, f1, h, h⟩, ⟨f0, f1 + h, h, h⟩, ⟨f0 + h, f1 + h, h, h⟩] u13 w.heap.size (fun _ => True) HB13.out.size trivial (by simp), below_alloc HB13.out _⟩
  · go_wp2_with fail
    go_ret2
    exact ⟨_, rfl, by rw [HREG.out 4]; exact lit_R23 [⟨f0, f1, h, h⟩, ⟨f0 + h, f1, h, h⟩, ⟨f0, f1 + h, f2, h⟩] u13 w.heap.size (fun _ => True) HB13.out.size trivial (by simp), below_alloc HB13.out _⟩
  · go_wp2_with fail
    go_ret2
    exact ⟨_, rfl, by rw [HREG.out 5]; exact lit_R23 [⟨f0, f1, f2, h⟩, ⟨f0, f1 + h, h, h⟩, ⟨f0 + h, f1 + h, h, h⟩] u13 w.heap.size (fun _ => True) HB13.out.size trivial (by simp), below_alloc HB13.out _⟩
  · go_wp2_with fail
    go_ret2
    exact ⟨_, rfl, by rw [HREG.out 6]; exact lit_R23 [⟨f0, f1, h, h⟩, ⟨f0, f1 + h, h, h⟩, ⟨f0 + h, f1, h, f2⟩] u13 w.heap.size (fun _ => True) HB13.out.size trivial (by simp), below_alloc HB13.out _⟩
  · go_wp2_with fail
    go_ret2
    exact ⟨_, rfl, by rw [HREG.out 7]; exact lit_R23 [⟨f0, f1, h, f2⟩, ⟨f0 + h, f1, h, h⟩, ⟨f0 + h, f1 + h, h, h⟩] u13 w.heap.size (fun _ => True) HB13.out.size trivial (by simp), below_alloc HB13.out _⟩
  · clear x0_0 x0_1 x0_2 x0_3 x1_0 x1_1 x1_2 x1_3 x2_0 x2_1 x2_2 x2_3 x3_0 x3_1 x3_2 x3_3 x4_0 x4_1 x4_2 x4_3 x5_0 x5_1 x5_2 x5_3 x6_0 x6_1 x6_2 x6_3 x7_0 x7_1 x7_2 x7_3 x8_0 x8_1 x8_2 x8_3
    go_wp2_with fail
    refine (rrect_any _ _ _ _ _).mono ?_
    rintro e w14 ⟨rfl, hb⟩
    have HB14 := Aside0.mk (below_step HB13.out hb)
    clear HB13 hb
    go_wp2_with fail
    refine (rrect_any _ _ _ _ _).mono ?_
    rintro e w15 ⟨rfl, hb⟩
    have HB15 := Aside0.mk (below_step HB14.out hb)
    clear HB14 hb
    go_wp2_with fail
    refine (rrect_any _ _ _ _ _).mono ?_
    rintro e w16 ⟨rfl, hb⟩
    have HB16 := Aside0.mk (below_step HB15.out hb)
    clear HB15 hb
    go_wp2_with fail
    refine (rrect_any _ _ _ _ _).mono ?_
    rintro e w17 ⟨rfl, hb⟩
    have HB17 := Aside0.mk (below_step HB16.out hb)
    clear HB16 hb
    go_wp2_with fail
    go_ret2
    exact ⟨_, rfl, by rw [HREG.out 8]; exact lit_R23 [⟨f0, f1, f2, q⟩, ⟨f0, f1 + q, f2, q⟩, ⟨f0, f1 + 2 * q, f2, q⟩, ⟨f0, f1 + 3 * q, f2, q⟩] w17 w.heap.size (fun _ => True) HB17.out.size trivial (by simp), below_alloc HB17.out _⟩
  · clear x0_0 x0_1 x0_2 x0_3 x1_0 x1_1 x1_2 x1_3 x2_0 x2_1 x2_2 x2_3 x3_0 x3_1 x3_2 x3_3 x4_0 x4_1 x4_2 x4_3 x5_0 x5_1 x5_2 x5_3 x6_0 x6_1 x6_2 x6_3 x7_0 x7_1 x7_2 x7_3 x8_0 x8_1 x8_2 x8_3
    go_wp2_with fail
    refine (rrect_any _ _ _ _ _).mono ?_
    rintro e w14 ⟨rfl, hb⟩
    have HB14 := Aside0.mk (below_step HB13.out hb)
    clear HB13 hb
    go_wp2_with fail
    refine (rrect_any _ _ _ _ _).mono ?_
    rintro e w15 ⟨rfl, hb⟩
    have HB15 := Aside0.mk (below_step HB14.out hb)
    clear HB14 hb
    go_wp2_with fail
    refine (rrect_any _ _ _ _ _).mono ?_
    rintro e w16 ⟨rfl, hb⟩
    have HB16 := Aside0.mk (below_step HB15.out hb)
    clear HB15 hb
    go_wp2_with fail
    refine (rrect_any _ _ _ _ _).mono ?_
    rintro e w17 ⟨rfl, hb⟩
    have HB17 := Aside0.mk (below_step HB16.out hb)
    clear HB16 hb
    go_wp2_with fail
    go_ret2
    exact ⟨_, rfl, by rw [HREG.out 9]; exact lit_R23 [⟨f0, f1, q, f2⟩, ⟨f0 + q, f1, q, f2⟩, ⟨f0 + 2 * q, f1, q, f2⟩, ⟨f0 + 3 * q, f1, q, f2⟩] w17 w.heap.size (fun _ => True) HB17.out.size trivial (by simp), below_alloc HB17.out _⟩
/-- The reference's Cuts, of any rectangle and partition. -/
theorem rcuts_any (r : S23) (kind : Int) (w : World) :
    Calls Try.prog 18 #[aggS r, .int .i64 kind] w fun e w' => ∃ v, e = .returned (.tuple #[v, .int .i64 (cutErr r kind)]) ∧ Kd.R k23 23 w' w.heap.size (fun _ => True) v (cutAns r kind) ∧ Below w.heap.size w w' := by
  unfold cutErr cutAns
  cases ho : cutOk r kind with
  | false =>
    refine (rcuts_no r kind w ho).mono ?_
    rintro e w' ⟨rfl, hb⟩
    exact ⟨_, rfl, Kd.R_nil _ _ _ _ _, hb⟩
  | true =>
    unfold cutOk at ho
    simp only [Bool.and_eq_true, decide_eq_true_eq] at ho
    obtain ⟨hr, hk0, hk1⟩ := ho
    exact rcuts_ok r kind w hr hk0 hk1
end Go.Proofs.Ytjobfnicnoffmaa.Rx
