/- The closure of part.Blocks that goes through a tree: one step. -/
import Derived.Test.YtjobfnicnoffmaaPc
import Derived.Test.YtjobfnicnoffmaaNx
import Derived.Test.YtjobfnicnoffmaaGr
namespace Go.Proofs.Ytjobfnicnoffmaa.Tr
open Go.RowKit Go.Proofs.Ytjobfnicnoffmaa.PPartTrees Go.Proofs.YtjobfnicnoffmaaW.PrintWords Go.Proofs.YtjobfnicnoffmaaW.PrintLast Go.Proofs.YtjobfnicnoffmaaW.PrintMore Go.Proofs.Ytjobfnicnoffmaa.Pt Go.Proofs.Ytjobfnicnoffmaa.Ph Go.Proofs.Ytjobfnicnoffmaa.Li Go.Proofs.Ytjobfnicnoffmaa.Pc Go.Proofs.Ytjobfnicnoffmaa.Nx Go.Proofs.Ytjobfnicnoffmaa.Gr

/-- What the closure captured, beside the choices: the area, the closure of the next choice, itself. -/
structure Caps (ga gn gt gl : Nat) (a : S23) (w : World) : Prop where
  area : w.heap[ga]? = some (.cells #[.int .i64 a.f0, .int .i64 a.f1, .int .i64 a.f2, .int .i64 a.f3] 23 (0, 0))
  next : w.heap[gn]? = some (.cells #[.func (.func 26) #[] #[.pointer (some ⟨gl, 0, none⟩)]] 52 (0, 0))
  tree : w.heap[gt]? = some (.cells #[.func (.func 27) #[] #[.pointer (some ⟨ga, 0, none⟩), .pointer (some ⟨gn, 0, none⟩), .pointer (some ⟨gt, 0, none⟩)]] 53 (0, 0))
  na : ga ≠ gl
  nn : gn ≠ gl
  nt : gt ≠ gl
theorem Caps.keep {ga gn gt gl : Nat} {a : S23} {w w' : World} (h : Caps ga gn gt gl a w) (hk : KeepBut w w' gl none) : Caps ga gn gt gl a w' :=
  ⟨hk.blk h.area h.na (by simp), hk.blk h.next h.nn (by simp), hk.blk h.tree h.nt (by simp), h.na, h.nn, h.nt⟩
theorem lft_below {W0 : World} {gl : Nat} {l : List Int} {w w' : World} (h : Lft W0 gl l w) (hb : Below w.heap.size w w') : Lft W0 gl l w' := by
  obtain ⟨h1, h2, A, c, hg, hC, hc⟩ := h
  exact ⟨below_step h1 hb, h2, A, c, (hb.block _ (blk_lt hg)).trans hg, hC, hc⟩
/-- The plain step. -/
def stepF (sub : S23 → List Int → List S23 × List Int) (a r : S23) (l : List Int) : List S23 × List Int :=
  if apartB r a = true then ([], l)
  else if insideB r a = true then
    if typesN r.f2 = 1 then ([r], l)
    else if nextK (typesN r.f2) l = 3 then foldQ sub (cutAns r 3) l.tail else (cutsL r (nextK (typesN r.f2) l), l.tail)
  else foldQ sub (cutAns r 3) l
/-- What is asked of the closure at a region. -/
def Tree (W0 : World) (ga gn gt gl : Nat) (a q : S23) (sub : List Int → List S23 × List Int) : Prop := ∀ (l : List Int) (w : World), Caps ga gn gt gl a w → Lft W0 gl l w →
  Calls Try.prog 27 #[aggS q, .pointer (some ⟨ga, 0, none⟩), .pointer (some ⟨gn, 0, none⟩), .pointer (some ⟨gt, 0, none⟩)] w fun e w' => ∃ v, e = .returned v ∧ Kd.R k23 23 w' w.heap.size (fun _ => True) v (sub l).1 ∧ Lft W0 gl (sub l).2 w' ∧ KeepBut w w' gl none

theorem cutAns_len (r : S23) (kind : Int) : (cutAns r kind).length ≤ 4 := by
  unfold cutAns cutsL
  split
  · split
    · simp
    · rw [List.length_map]; exact quads_len kind
  · simp
theorem foldQ_len {sub : S23 → List Int → List S23 × List Int} (hlen : ∀ q l, (sub q l).1.length ≤ 100) (qs : List S23) (l : List Int) : (foldQ sub qs l).1.length ≤ 100 * qs.length := by
  induction qs generalizing l with
  | nil => simp [foldQ]
  | cons q qs ih =>
    unfold foldQ
    have h1 := hlen q l
    have h2 := ih (sub q l).2
    rw [List.length_append, List.length_cons]; omega
theorem foldQ_take (sub : S23 → List Int → List S23 × List Int) (qs : List S23) (l : List Int) (i : Nat) (hi : i < qs.length) (q : S23) (hq : qs.getD i z23 = q) :
    foldQ sub (qs.take (i + 1)) l = ((foldQ sub (qs.take i) l).1 ++ (sub q (foldQ sub (qs.take i) l).2).1, (sub q (foldQ sub (qs.take i) l).2).2) := by
  have e : qs[i] = q := by rw [← hq, List.getD_eq_getElem?_getD, List.getElem?_eq_getElem hi]; rfl
  rw [List.take_succ_eq_append_getElem hi, foldQ_snoc, e]

theorem box_cells {w : World} {g : Nat} {a b c d : Int} {t : Nat} (h : w.heap[g]? = some (.cells #[.int .i64 a, .int .i64 b, .int .i64 c, .int .i64 d] t (0, 0))) :
    w.cell? ⟨g, 0, none⟩ = some (.int .i64 a) ∧ w.cell? ⟨g, 1, none⟩ = some (.int .i64 b) ∧ w.cell? ⟨g, 2, none⟩ = some (.int .i64 c) ∧ w.cell? ⟨g, 3, none⟩ = some (.int .i64 d) :=
  ⟨(blk_cell h 0).trans rfl, (blk_cell h 1).trans rfl, (blk_cell h 2).trans rfl, (blk_cell h 3).trans rfl⟩

set_option maxRecDepth 100000 in
set_option maxHeartbeats 2000000 in
theorem tree_step (W0 : World) (ga gn gt gl : Nat) (a r : S23) (sub : S23 → List Int → List S23 × List Int) (ha : Small a) (hr : regB r = true) (hsub : ∀ q ∈ cutAns r 3, Tree W0 ga gn gt gl a q (sub q)) (hlen : ∀ q l, (sub q l).1.length ≤ 100) :
    Tree W0 ga gn gt gl a r (stepF sub a r) := by
  intro l w hc hl
  have hsm : Small r := by
    obtain ⟨h1, h2, h3, h4⟩ := regB_iff.1 hr
    unfold Small; omega
  have HS := Aside0.mk hsub
  have HLEN := Aside0.mk hlen
  have HRB := Aside0.mk hr
  have HCap := Aside0.mk hc
  have HLeft := Aside0.mk hl
  have HAp := Aside0.mk (fun w => apart_any r a w hsm ha)
  have HIn := Aside0.mk (fun w => inside_any r a w hsm ha)
  have hn : typesN r.f2 = 1 ∨ typesN r.f2 = 8 ∨ typesN r.f2 = 10 := by
    rcases (regB_iff.1 hr).1 with h | h | h | h <;> rw [h] <;> decide
  have HT := Aside0.mk (types_any r.f2)
  obtain ⟨T, eT⟩ : ∃ T, stepF sub a r l = T := ⟨_, rfl⟩
  have ET := Aside0.mk eT
  rw [eT]
  clear eT
  obtain ⟨n, en⟩ : ∃ n, typesN r.f2 = n := ⟨_, rfl⟩
  obtain ⟨m, em⟩ : ∃ m, typesE r.f2 = m := ⟨_, rfl⟩
  rw [en, em] at HT
  rw [en] at hn
  have EN := Aside0.mk en
  clear hsub hlen hr hc hl hsm ha en em
  obtain ⟨f0, f1, f2, f3⟩ := r
  obtain ⟨b0, b1, b2, b3⟩ := a
  dsimp only [aggS] at HAp HIn HT ⊢
  go_enter Try.func27, Try.ntmps27
  go_wp2_with fail
  refine (HT.out _).mono ?_
  rintro e w' ⟨rfl, ⟨nd, rfl⟩⟩
  have hbox : ((w.alloc (.cells #[.int .i64 f0, .int .i64 f1, .int .i64 f2, .int .i64 f3] 23)).drewN nd).heap[w.heap.size]? = some (.cells #[.int .i64 f0, .int .i64 f1, .int .i64 f2, .int .i64 f3] 23) := heap_alloc_new w _
  have hb := pw_below_drewN (below_alloc (Below.refl w.heap.size w) (.cells #[.int .i64 f0, .int .i64 f1, .int .i64 f2, .int .i64 f3] 23)) nd
  obtain ⟨w1, ew1⟩ : ∃ w1, (w.alloc (.cells #[.int .i64 f0, .int .i64 f1, .int .i64 f2, .int .i64 f3] 23)).drewN nd = w1 := ⟨_, rfl⟩
  rw [ew1] at hbox hb ⊢
  have HBOX := Aside0.mk hbox
  have HB := Aside0.mk hb
  have HCap1 := Aside0.mk (HCap.out.keep (KeepBut.of_below hb gl none))
  have HLeft1 := Aside0.mk (lft_below HLeft.out hb)
  clear ew1 hb hbox
  go_upto_block 0 with fail
  have hgl : gl < w.heap.size := blk_lt HLeft.out.here.choose_spec.choose_spec.1
  go_cut [6] (fun s6 wx => ∃ (K : Int) (Rs : List Int), s6 = .int .i64 K ∧ Aside0 (T = if K = 3 then foldQ sub (cutAns ⟨f0, f1, f2, f3⟩ 3) Rs else (cutsL ⟨f0, f1, f2, f3⟩ K, Rs)) ∧ Aside0 (K ≠ 3 → cutAns ⟨f0, f1, f2, f3⟩ K = cutsL ⟨f0, f1, f2, f3⟩ K) ∧ Aside0 (Lft W0 gl Rs wx) ∧ Aside0 (KeepBut w1 wx gl none))
  case first =>
    obtain ⟨x0, x1, x2, x3⟩ := box_cells HBOX.out
    obtain ⟨y0, y1, y2, y3⟩ := box_cells HCap1.out.area
    cases hap : apartB ⟨f0, f1, f2, f3⟩ ⟨b0, b1, b2, b3⟩ with
    | true =>
      rw [hap] at HAp
      have e1 : T = ([], l) := by rw [← ET.out]; unfold stepF; rw [if_pos hap]
      have ET1 := Aside0.mk e1
      clear hap e1
      go_wp2_with fail
      refine (HAp.out _).mono ?_
      rintro e w2 ⟨rfl, hb2⟩
      go_wp2_with fail
      go_ret
      exact ⟨_, rfl, by rw [ET1.out]; exact Kd.R_nil _ _ _ _ _, by rw [ET1.out]; exact lft_below HLeft1.out hb2, KeepBut.of_below (HB.out.trans (hb2.mono HB.out.size)) gl none⟩
    | false =>
      rw [hap] at HAp
      have HAPF := Aside0.mk hap
      clear hap
      go_wp2_with fail
      refine (HAp.out _).mono ?_
      rintro e w2 ⟨rfl, hb2⟩
      have HB2 := Aside0.mk hb2
      have HK2 := Aside0.mk (KeepBut.of_below hb2 gl none)
      obtain ⟨z0, z1, z2, z3⟩ := box_cells ((hb2.block _ (blk_lt HBOX.out)).trans HBOX.out)
      obtain ⟨v0, v1, v2, v3⟩ := box_cells ((hb2.block _ (blk_lt HCap1.out.area)).trans HCap1.out.area)
      have HLeft2 := Aside0.mk (lft_below HLeft1.out hb2)
      have HCap2 := Aside0.mk (HCap1.out.keep HK2.out)
      clear x0 x1 x2 x3 y0 y1 y2 y3 hb2
      cases hin : insideB ⟨f0, f1, f2, f3⟩ ⟨b0, b1, b2, b3⟩ with
      | false =>
        rw [hin] at HIn
        have e1 : T = foldQ sub (cutAns ⟨f0, f1, f2, f3⟩ 3) l := by
          rw [← ET.out]; unfold stepF
          rw [if_neg (by rw [HAPF.out]; decide), if_neg (by rw [hin]; decide)]
        have ET1 := Aside0.mk e1
        clear hin e1
        go_wp2_with fail
        refine (HIn.out _).mono ?_
        rintro e w3 ⟨rfl, hb3⟩
        have HB3 := Aside0.mk (HB2.out.trans (hb3.mono HB2.out.size))
        have HLeft3 := Aside0.mk (lft_below HLeft2.out hb3)
        clear hb3
        go_wp2_with fail
        go_meet
        exact ⟨3, l, rfl, ⟨by rw [if_pos rfl]; exact ET1.out⟩, ⟨fun h => absurd rfl h⟩, HLeft3, ⟨KeepBut.of_below HB3.out gl none⟩⟩
      | true =>
        rw [hin] at HIn
        have e0 : T = if n = 1 then ([⟨f0, f1, f2, f3⟩], l) else if nextK n l = 3 then foldQ sub (cutAns ⟨f0, f1, f2, f3⟩ 3) l.tail else (cutsL ⟨f0, f1, f2, f3⟩ (nextK n l), l.tail) := by
          rw [← ET.out]; unfold stepF
          rw [if_neg (by rw [HAPF.out]; decide), if_pos hin, EN.out]
        have ET0 := Aside0.mk e0
        clear hin e0
        go_wp2_with fail
        refine (HIn.out _).mono ?_
        rintro e w3 ⟨rfl, hb3⟩
        have HB3 := Aside0.mk (HB2.out.trans (hb3.mono HB2.out.size))
        have HLeft3 := Aside0.mk (lft_below HLeft2.out hb3)
        have HCap3 := Aside0.mk (HCap2.out.keep (KeepBut.of_below hb3 gl none))
        obtain ⟨x0, x1, x2, x3⟩ := box_cells ((hb3.block _ (Nat.lt_of_lt_of_le (blk_lt HBOX.out) HB2.out.size)).trans ((HB2.out.block _ (blk_lt HBOX.out)).trans HBOX.out))
        have q0 := blk_cell HCap3.out.next 0
        have q1 : w3.cell? ⟨gn, 0, none⟩ = some (.func (.func 26) #[] #[.pointer (some ⟨gl, 0, none⟩)]) := q0.trans rfl
        clear hb3 z0 z1 z2 z3 v0 v1 v2 v3 q0
        by_cases hn1 : n = 1
        · subst hn1
          rw [if_pos rfl] at ET0
          have hw3 := (HB.out.trans (HB3.out.mono HB.out.size))
          have HW3 := Aside0.mk hw3
          clear hw3
          go_wp2_with fail
          go_ret
          exact ⟨_, rfl, by rw [ET0.out]; exact lit_R23 [⟨f0, f1, f2, f3⟩] w3 w.heap.size (fun _ => True) HW3.out.size trivial (by simp), by rw [ET0.out]; exact lft_below HLeft3.out (below_alloc (Below.refl _ _) _), KeepBut.of_below (below_alloc HW3.out _) gl none⟩
        · rw [if_neg hn1] at ET0
          have hnn : (n == 1) = false := beq_eq_false_iff_ne.2 hn1
          have hn8 : 8 ≤ n ∧ n ≤ 10 := by omega
          go_wp2_with fail
          refine (next_any W0 gl l n w3 HLeft3.out (by omega) (by omega)).mono ?_
          rintro e w4 ⟨rfl, hl4, hk4⟩
          have HL4 := Aside0.mk hl4
          have HK4 := Aside0.mk ((KeepBut.of_below HB3.out gl none).trans hk4 (.inl rfl))
          clear hl4 hk4
          go_wp2_with fail
          go_meet
          refine ⟨nextK n l, l.tail, rfl, ET0, ⟨fun _ => ?_⟩, HL4, HK4⟩
          have hk : 0 ≤ nextK n l ∧ nextK n l < n := by
            unfold nextK
            split
            · omega
            · exact ⟨Int.emod_nonneg _ (by omega), Int.emod_lt_of_pos _ (by omega)⟩
          unfold cutAns cutOk
          rw [HRB.out, EN.out, decide_eq_true hk.1, decide_eq_true hk.2]; rfl
  case rest =>
    obtain ⟨K, Rs, rfl, HTK, HKK, HL, HK⟩ := hcut
    obtain ⟨x0, x1, x2, x3⟩ := box_cells (HK.out.blk HBOX.out (by omega) (by simp))
    obtain ⟨p0, p1, p2, p3⟩ := regB_iff.1 HRB.out
    have hcut := cuts_any ⟨f0, f1, f2, f3⟩ K wc (by omega) (by omega)
    have HC := Aside0.mk hcut
    have HKW := Aside0.mk ((KeepBut.of_below HB.out gl none).trans HK.out (.inl rfl))
    clear hcut p0 p1 p2 p3 HIn HAp HT
    go_wp2_with fail
    refine HC.out.mono ?_
    rintro e w5 ⟨v5, rfl, hr5, hb5⟩
    have HB5 := Aside0.mk hb5
    have HR5 := Aside0.mk hr5
    have HL5 := Aside0.mk (lft_below HL.out hb5)
    have HK5 := Aside0.mk (HKW.out.trans (KeepBut.of_below hb5 gl none) (.inl rfl))
    clear hb5 hr5 HC HL
    by_cases h3 : K = 3
    · subst h3
      rw [if_pos rfl] at HTK
      clear HKK
      obtain ⟨A5, c5, rfl, hl5, hC5⟩ := Kd.R_reads HR5.out
      have hgw : gl < wc.heap.size := Nat.lt_of_lt_of_le hgl HKW.out.1
      have HCQ := Aside0.mk (Kd.C_foot_own (Kd.R_bound HR5.out) (g := gl) (fun k hk => by have := hk.2.1; omega))
      have hg5 : gl < w5.heap.size := Nat.lt_of_lt_of_le hgw HB5.out.size
      have hq4 := cutAns_len ⟨f0, f1, f2, f3⟩ 3
      obtain ⟨qs, hqs⟩ : ∃ qs, cutAns ⟨f0, f1, f2, f3⟩ 3 = qs := ⟨_, rfl⟩
      have HT5 := Aside0.mk (show T = foldQ sub qs Rs by rw [HTK.out, hqs])
      rw [hqs] at HCQ HS hl5 hq4 ⊢
      have HO : Aside0 (Kd.R k23 23 w5 w5.heap.size (fun _ => True) (.slice none 0 0) (foldQ sub (qs.take 0) Rs).1) := ⟨Kd.R_nil _ _ _ _ _⟩
      have HL : Aside0 (Lft W0 gl (foldQ sub (qs.take 0) Rs).2 w5) := HL5
      have HKR := Aside0.mk (KeepBut.refl w5 gl none)
      clear HR5 HL5 hC5 hqs HTK HKW HK HB5 HB HBOX HCap1 HLeft1 HLeft hgw x0 x1 x2 x3
      go_wp2_with fail
      go_loopw [11, 48] (fun v11 v48 wr => ∃ i : Nat, i ≤ qs.length ∧ v48 = .int .i64 i ∧ Aside0 (Kd.R k23 23 wr w5.heap.size (fun _ => True) v11 (foldQ sub (qs.take i) Rs).1) ∧ Aside0 (Lft W0 gl (foldQ sub (qs.take i) Rs).2 wr) ∧ Aside0 (KeepBut w5 wr gl none)) (fun _ v48 _ => qs.length - (intOf v48).toNat)
      case atStart => exact ⟨0, Nat.zero_le _, rfl, HO, HL, HKR⟩
      case round =>
        clear HO HL HKR
        obtain ⟨i, hi, rfl, HO, HL, HKR⟩ := hrel
        by_cases hlt : i < qs.length
        · obtain ⟨ad, e, c0, c1, c2, c3⟩ := at_T23 (HCQ.out _ HKR.out) (i : Int) (by omega) (by omega)
          cases e
          have er : rd_T23 qs (i : Int) = qs.getD i z23 := by unfold rd_T23; rw [Int.toNat_natCast]
          rw [er, Int.toNat_natCast] at c0 c1 c2 c3
          obtain ⟨q, eq⟩ : ∃ q, qs.getD i z23 = q := ⟨_, rfl⟩
          have hfl := foldQ_len HLEN.out (qs.take i) Rs
          have ht := foldQ_take sub qs Rs i hlt q eq
          have hmem : q ∈ qs := by
            rw [← eq, List.getD_eq_getElem?_getD, List.getElem?_eq_getElem hlt]; exact List.getElem_mem _
          rw [eq] at c0 c1 c2 c3
          have hlen1 : (foldQ sub (qs.take i) Rs).1.length ≤ 1000 := by
            rw [List.length_take] at hfl; omega
          have HTQ := Aside0.mk (HS.out q hmem)
          obtain ⟨P, eP⟩ : ∃ P, foldQ sub (qs.take i) Rs = P := ⟨_, rfl⟩
          rw [eP] at HO HL ht hlen1
          obtain ⟨A11, c11, rfl, hl11, hC11⟩ := Kd.R_reads HO.out
          have HTT := Aside0.mk ht
          have hlen2 := HLEN.out q P.2
          have HCapr := Aside0.mk (HCap.out.keep (HK5.out.trans HKR.out (.inl rfl)))
          have hq0 : wr.cell? ⟨gt, 0, none⟩ = some (.func (.func 27) #[] #[.pointer (some ⟨ga, 0, none⟩), .pointer (some ⟨gn, 0, none⟩), .pointer (some ⟨gt, 0, none⟩)]) := (blk_cell HCapr.out.tree 0).trans rfl
          have hgtlt : gt < wr.heap.size := blk_lt HCapr.out.tree
          clear er eq hfl ht hmem eP hC11
          go_wp2_with fail
          refine (HTQ.out P.2 _ (HCapr.out.keep (KeepBut.of_below (below_alloc (Below.refl _ _) _) gl none)) (lft_below HL.out (below_alloc (Below.refl _ _) _))).mono ?_
          rintro e w7 ⟨v7, rfl, hr7, hl7, hk7⟩
          have hk := (KeepBut.of_below (below_alloc (Below.refl wr.heap.size wr) (.cells #[.int .i64 q.f0, .int .i64 q.f1, .int .i64 q.f2, .int .i64 q.f3] 23)) gl none).trans hk7 (.inl rfl)
          have ho7 := Kd.R_keep (Kd.R_bound HO.out) hk (fun k h => by have := h.2.1; omega)
          obtain ⟨A7, c7, rfl, hl7', hC7⟩ := Kd.R_reads hr7
          obtain ⟨-, hl11', hC11⟩ := Kd.R_reads' ho7
          have HC7 := Aside0.mk hC7
          have HC11 := Aside0.mk hC11
          have HL7 := Aside0.mk hl7
          have HK7 := Aside0.mk (HKR.out.trans hk (.inl rfl))
          clear hr7 hl7 hk7 hk ho7 hC7 hC11
          go_wp2_with fail
          refine (concat_two A11 A7 c11 c7 P.1 (sub q P.2).1 w7.heap.size 28 (0, 0) _ (heap_alloc_new _ _) (Kd.C_alloc HC11.out _) (Kd.C_alloc HC7.out _) hlen1 (by omega)).mono ?_
          rintro e w8 ⟨v8, rfl, hr8, hb8⟩
          have HR8 := Aside0.mk hr8
          have HB8 := Aside0.mk (below_step (below_alloc (Below.refl w7.heap.size w7) _) hb8)
          clear hr8 hb8
          go_wp2_with fail
          exact ⟨⟨i + 1, by omega, rfl, ⟨by rw [HTT.out]; exact Kd.R_lower HR8.out (by have := HK7.out.1; simp; omega)⟩, ⟨by rw [HTT.out]; exact lft_below HL7.out HB8.out⟩, ⟨HK7.out.trans (KeepBut.of_below HB8.out gl none) (.inl rfl)⟩⟩, by simp [intOf]; omega⟩
        · obtain rfl : i = qs.length := by omega
          rw [List.take_length] at HO HL
          go_wp2_with fail
          go_ret
          exact ⟨_, rfl, by rw [HT5.out]; exact Kd.R_lower HO.out HK5.out.1, by rw [HT5.out]; exact HL.out, HK5.out.trans HKR.out (.inl rfl)⟩
    · rw [if_neg h3] at HTK
      have hne : (K != 3) = true := bne_iff_ne.2 h3
      have HKE := Aside0.mk (HKK.out h3)
      clear HKK h3
      go_wp2_with fail
      go_ret
      exact ⟨_, rfl, by rw [HTK.out, ← HKE.out]; exact Kd.R_lower HR5.out HKW.out.1, by rw [HTK.out]; exact HL5.out, HK5.out⟩
end Go.Proofs.Ytjobfnicnoffmaa.Tr
