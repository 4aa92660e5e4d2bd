/- The walk of part.Cuts: any rectangle, any partition. -/
import Derived.Test.YtjobfnicnoffmaaPh
import Derived.Test.YtjobfnicnoffmaaLi
namespace Go.Proofs.Ytjobfnicnoffmaa.Pc
open Go.RowKit Go.Proofs.Ytjobfnicnoffmaa.PPartTrees Go.Proofs.YtjobfnicnoffmaaW.PrintWords Go.Proofs.YtjobfnicnoffmaaW.PrintLast Go.Proofs.YtjobfnicnoffmaaW.PrintMore Go.Proofs.Ytjobfnicnoffmaa.Pt Go.Proofs.Ytjobfnicnoffmaa.Ph Go.Proofs.Ytjobfnicnoffmaa.Li

/-- A part's four numbers in memory. -/
def k57 : Kd Q4 := Kd.iso (Kd.pair (Kd.int .i64) (Kd.pair (Kd.int .i64) (Kd.pair (Kd.int .i64) (Kd.int .i64)))) (fun x : Q4 => (x.a, x.b, x.c, x.d))
theorem k57_open {w : World} {x : Q4} {cs : List Value} (h : k57.K w x cs) : cs = [.int .i64 x.a, .int .i64 x.b, .int .i64 x.c, .int .i64 x.d] := by
  obtain ⟨_, _, rfl, rfl, ⟨_, _, rfl, rfl, ⟨_, _, rfl, rfl, rfl⟩⟩⟩ := h
  exact rfl
theorem k57_mk (w : World) (x : Q4) : k57.K w x [.int .i64 x.a, .int .i64 x.b, .int .i64 x.c, .int .i64 x.d] := ⟨[.int .i64 x.a], [.int .i64 x.b, .int .i64 x.c, .int .i64 x.d], rfl, rfl, ⟨[.int .i64 x.b], [.int .i64 x.c, .int .i64 x.d], rfl, rfl, ⟨[.int .i64 x.c], [.int .i64 x.d], rfl, rfl, rfl⟩⟩⟩
def rdQ (xs : List Q4) (i : Int) : Q4 := xs.getD i.toNat zq
theorem at_Q {w : World} {A : Option Addr} {n : Nat} {xs : List Q4} (h : Kd.C k57 w A n xs) (i : Int) (h0 : 0 ≤ i) (h1 : i < n) : ∃ ad , A = some ad ∧ w.cell? (ad.add (i.toNat * 4)) = some (.int .i64 (rdQ xs i).a) ∧ w.cell? ⟨(ad.add (i.toNat * 4)).block, (ad.add (i.toNat * 4)).off + 1, none⟩ = some (.int .i64 (rdQ xs i).b) ∧ w.cell? ⟨(ad.add (i.toNat * 4)).block, (ad.add (i.toNat * 4)).off + 2, none⟩ = some (.int .i64 (rdQ xs i).c) ∧ w.cell? ⟨(ad.add (i.toNat * 4)).block, (ad.add (i.toNat * 4)).off + 3, none⟩ = some (.int .i64 (rdQ xs i).d) := by
  obtain ⟨ad, c, e, _, hK, hc0⟩ := Kd.C_get h zq i h0 h1
  have hc : ∀ j u, c[j]? = some u → w.cell? (ad.add (i.toNat * 4 + j)) = some u := hc0
  obtain rfl := k57_open hK
  exact ⟨ad, e, hc 0 _ rfl, by rw [← add_field _ _ 1 (by omega)]; exact hc 1 _ rfl, by rw [← add_field _ _ 2 (by omega)]; exact hc 2 _ rfl, by rw [← add_field _ _ 3 (by omega)]; exact hc 3 _ rfl⟩

set_option maxRecDepth 100000 in
set_option maxHeartbeats 2000000 in
theorem cuts_no (r : S23) (kind : Int) (w : World) (h0 : r.f0 ≤ 9223372036854775807) (h1 : r.f1 ≤ 9223372036854775807) (ho : cutOk r kind = false) :
    Calls Try.prog 15 #[aggS r, .int .i64 kind] w fun e w' => e = .returned (.tuple #[.slice none 0 0, .int .i64 2]) ∧ Below w.heap.size w w' := by
  have HT := Aside0.mk (types_any r.f2)
  have HR := Aside0.mk (fun w => region_any r w h0 h1)
  unfold cutOk at ho
  obtain ⟨n, hn⟩ : ∃ n, typesN r.f2 = n := ⟨_, rfl⟩
  obtain ⟨m, hm⟩ : ∃ m, typesE r.f2 = m := ⟨_, rfl⟩
  rw [hn, hm] at HT
  rw [hn] at ho
  clear hn hm
  obtain ⟨f0, f1, f2, f3⟩ := r
  dsimp only [aggS] at HT HR ho ⊢
  cases hr : regB ⟨f0, f1, f2, f3⟩ with
  | false =>
    rw [hr] at HR
    clear hr ho h0 h1
    go_enter Try.func15, Try.ntmps15
    go_wp2_with fail
    refine (HT.out _).mono ?_
    rintro e w' ⟨rfl, ⟨nd, rfl⟩⟩
    go_wp2_with fail
    refine (HR.out _).mono ?_
    rintro e w2 ⟨rfl, hb⟩
    go_wp2_with fail
    go_ret2
    exact ⟨rfl, below_step (pw_below_drewN (below_alloc (Below.refl _ _) _) nd) hb⟩
  | true =>
    rw [hr] at HR ho
    clear hr h0 h1
    simp only [Bool.true_and, Bool.and_eq_false_iff, decide_eq_false_iff_not] at ho
    by_cases hk : kind < 0
    · clear ho
      go_enter Try.func15, Try.ntmps15
      go_wp2_with fail
      refine (HT.out _).mono ?_
      rintro e w' ⟨rfl, ⟨nd, rfl⟩⟩
      go_wp2_with fail
      refine (HR.out _).mono ?_
      rintro e w2 ⟨rfl, hb⟩
      go_wp2_with fail
      go_ret2
      exact ⟨rfl, below_step (pw_below_drewN (below_alloc (Below.refl _ _) _) nd) hb⟩
    · have hk2 : kind ≥ n := by omega
      clear ho
      go_enter Try.func15, Try.ntmps15
      go_wp2_with fail
      refine (HT.out _).mono ?_
      rintro e w' ⟨rfl, ⟨nd, rfl⟩⟩
      go_wp2_with fail
      refine (HR.out _).mono ?_
      rintro e w2 ⟨rfl, hb⟩
      go_wp2_with fail
      go_ret2
      exact ⟨rfl, below_step (pw_below_drewN (below_alloc (Below.refl _ _) _) nd) hb⟩

def cQ (x : Q4) : List Value := [.int .i64 x.a, .int .i64 x.b, .int .i64 x.c, .int .i64 x.d]
theorem lit_Q (xs : List Q4) {w : World} {g t : Nat} {fr : Nat × Nat} (hl : xs.length ≤ 9223372036854775807) (hg : w.heap[g]? = some (.cells (xs.flatMap cQ).toArray t fr)) : Kd.C k57 w (some ⟨g, 0, none⟩) xs.length xs := row_C (fun w x => k57_mk w x) xs hl hg
/-- The literal of a partition, laid just now. -/
theorem lit_at (xs : List Q4) (n : Nat) (cs : Array Value) (W : World) (hn : xs.length = n) (hcs : (xs.flatMap cQ).toArray = cs) (hl : xs.length ≤ 100) : Kd.C k57 (W.alloc (.cells cs 57)) (some ⟨W.heap.size, 0, none⟩) n xs := by
  subst hn
  subst hcs
  exact lit_Q xs (by omega) (heap_alloc_new _ _)
def InQ (q : Q4) : Prop := (0 ≤ q.a ∧ q.a ≤ 4) ∧ (0 ≤ q.b ∧ q.b ≤ 4) ∧ (0 ≤ q.c ∧ q.c ≤ 4) ∧ (0 ≤ q.d ∧ q.d ≤ 4)
theorem quads_in (kind : Int) (i : Nat) : InQ ((quads kind).getD i zq) := by
  have h : ∀ q ∈ quads kind, InQ q := by
    unfold quads
    repeat' split
    all_goals (intro q hq; simp only [List.mem_cons, List.not_mem_nil, or_false] at hq; unfold InQ; rcases hq with rfl | rfl | rfl | rfl <;> decide)
  rw [List.getD_eq_getElem?_getD]
  rcases Nat.lt_or_ge i (quads kind).length with hi | hi
  · rw [List.getElem?_eq_getElem hi]; exact h _ (List.getElem_mem _)
  · rw [List.getElem?_eq_none hi]; unfold InQ; decide
theorem quads_len (kind : Int) : (quads kind).length ≤ 4 := by
  unfold quads
  repeat' split
  all_goals simp
theorem cuts_take (r : S23) (qs : List Q4) (i : Nat) (hi : i < qs.length) : (qs.take i).map (piece r) ++ [piece r (qs.getD i zq)] = (qs.take (i + 1)).map (piece r) := by
  rw [List.take_succ_eq_append_getElem hi, List.map_append, List.getD_eq_getElem?_getD, List.getElem?_eq_getElem hi]; rfl

set_option maxRecDepth 100000 in
set_option maxHeartbeats 2000000 in
theorem cuts_some (r : S23) (kind : Int) (w : World) (h0 : r.f0 ≤ 9223372036854775807) (h1 : r.f1 ≤ 9223372036854775807) (hr : regB r = true) (hk0 : 1 ≤ kind) (hk1 : kind < typesN r.f2) :
    Calls Try.prog 15 #[aggS r, .int .i64 kind] w fun e w' => ∃ v, e = .returned (.tuple #[v, .int .i64 0]) ∧ Kd.R k23 23 w' w.heap.size (fun _ => True) v (cutsL r kind) ∧ Below w.heap.size w w' := by
  have HT := Aside0.mk (types_any r.f2)
  have HR := Aside0.mk (fun w => region_any r w h0 h1)
  have HRE := Aside0.mk hr
  rw [hr] at HR
  have hn10 : typesN r.f2 ≤ 10 := by unfold typesN; repeat' split <;> omega
  obtain ⟨n, hn⟩ : ∃ n, typesN r.f2 = n := ⟨_, rfl⟩
  obtain ⟨m, hm⟩ : ∃ m, typesE r.f2 = m := ⟨_, rfl⟩
  rw [hn, hm] at HT
  rw [hn] at hk1 hn10
  clear hn hm hr h0 h1
  have hk2 : ¬ kind < 0 := by omega
  have hk3 : ¬ kind ≥ n := by omega
  go_enter Try.func15, Try.ntmps15
  go_wp2_with fail
  refine (HT.out _).mono ?_
  rintro e w' ⟨rfl, ⟨nd, rfl⟩⟩
  go_wp2_with fail
  refine (HR.out _).mono ?_
  rintro e w2 ⟨rfl, hb⟩
  have HB2 := Aside0.mk (below_step (pw_below_drewN (below_alloc (Below.refl _ _) _) nd) hb)
  have HBX := Aside0.mk hb
  clear hb
  go_upto_block 0 with fail
  go_cut [8] (fun s8 wx => ∃ g : Nat, s8 = .slice (some ⟨g, 0, none⟩) (quads kind).length (quads kind).length ∧ Aside0 (Kd.C k57 wx (some ⟨g, 0, none⟩) (quads kind).length (quads kind)) ∧ Aside0 (Below w2.heap.size w2 wx))
  case first =>
    rcases (show kind = 1 ∨ kind = 2 ∨ kind = 3 ∨ kind = 4 ∨ kind = 5 ∨ kind = 6 ∨ kind = 7 ∨ kind = 8 ∨ kind = 9 by omega) with rfl | rfl | rfl | rfl | rfl | rfl | rfl | rfl | rfl
    all_goals (go_wp2_with fail; go_meet; exact ⟨w2.heap.size, rfl, ⟨lit_at _ _ _ w2 rfl rfl (by decide)⟩, ⟨below_alloc (Below.refl _ _) _⟩⟩)
  case rest =>
    obtain ⟨g, rfl, HQ, HB⟩ := hcut
    obtain ⟨f0, f1, f2, f3⟩ := r
    have hbox : wc.heap[w.heap.size]? = some (.cells #[.int .i64 f0, .int .i64 f1, .int .i64 f2, .int .i64 f3] 23) :=
      (HB.out.block _ (Nat.lt_of_lt_of_le (by simp) HBX.out.size)).trans ((HBX.out.block _ (by simp)).trans (heap_alloc_new w _))
    have HX := Aside0.mk hbox
    obtain ⟨qs, hqs⟩ : ∃ qs, quads kind = qs := ⟨_, rfl⟩
    have HQI := Aside0.mk (fun i => quads_in kind i)
    have hq4 := quads_len kind
    have hcl : cutsL ⟨f0, f1, f2, f3⟩ kind = qs.map (piece ⟨f0, f1, f2, f3⟩) := by unfold cutsL; rw [if_neg (by omega), hqs]
    have HCL := Aside0.mk hcl
    rw [hqs] at HQ HQI hq4 ⊢
    have HBW := Aside0.mk (HB2.out.trans (HB.out.mono HB2.out.size))
    have HO : Aside0 (Kd.R k23 23 wc wc.heap.size (fun _ => True) (.slice none 0 0) ((qs.take 0).map (piece ⟨f0, f1, f2, f3⟩))) := ⟨Kd.R_nil _ _ _ _ _⟩
    have HW := Aside0.mk (Below.refl wc.heap.size wc)
    clear hbox hqs hcl HB HB2 HBX HT HR hk0 hk1 hk2 hk3 hn10
    go_wp2_with fail
    go_loopw [9, 90] (fun v9 v90 wr => ∃ i : Nat, i ≤ qs.length ∧ v90 = .int .i64 i ∧ Aside0 (Kd.R k23 23 wr wc.heap.size (fun _ => True) v9 ((qs.take i).map (piece ⟨f0, f1, f2, f3⟩))) ∧ Aside0 (Below wc.heap.size wc wr)) (fun _ v90 _ => qs.length - (intOf v90).toNat)
    case atStart => exact ⟨0, Nat.zero_le _, rfl, HO, HW⟩
    case round =>
      clear HO HW
      obtain ⟨i, hi, rfl, HO, HW⟩ := hrel
      by_cases hlt : i < qs.length
      · have hbox := (HW.out.block _ (by have := (Array.getElem?_eq_some_iff.1 HX.out).1; exact this)).trans HX.out
        have hz : w.heap.size < wr.heap.size := (Array.getElem?_eq_some_iff.1 hbox).1
        have x0 : wr.cell? ⟨w.heap.size, 0, none⟩ = some (.int .i64 f0) := by unfold World.cell?; rw [hbox]; rfl
        have x1 : wr.cell? ⟨w.heap.size, 1, none⟩ = some (.int .i64 f1) := by unfold World.cell?; rw [hbox]; rfl
        have x2 : wr.cell? ⟨w.heap.size, 2, none⟩ = some (.int .i64 f2) := by unfold World.cell?; rw [hbox]; rfl
        have x3 : wr.cell? ⟨w.heap.size, 3, none⟩ = some (.int .i64 f3) := by unfold World.cell?; rw [hbox]; rfl
        obtain ⟨ad, e, c0, c1, c2, c3⟩ := at_Q (Kd.C_below HQ.out HW.out) (i : Int) (by omega) (by omega)
        cases e
        have hq := HQI.out i
        have ht := cuts_take ⟨f0, f1, f2, f3⟩ qs i hlt
        have er : rdQ qs (i : Int) = qs.getD i zq := by unfold rdQ; rw [Int.toNat_natCast]
        have ea : ({ block := g, off := 0, spot := none } : Addr).add (i * 4) = ⟨g, i * 4, none⟩ := by simp [Addr.add]; omega
        rw [er, Int.toNat_natCast, ea] at c0 c1 c2 c3
        dsimp only at c1 c2 c3
        obtain ⟨q, eq⟩ : ∃ q, qs.getD i zq = q := ⟨_, rfl⟩
        rw [eq] at c0 c1 c2 c3 hq ht
        have HT := Aside0.mk ht
        have HQQ := Aside0.mk hq
        clear hbox er eq ht hq ea
        go_wp2_with fail
        refine (piece_any ⟨f0, f1, f2, f3⟩ q _ HRE.out HQQ.out).mono ?_
        rintro e w5 ⟨rfl, hb5⟩
        have HB5 := Aside0.mk (HW.out.trans ((below_step (below_alloc (Below.refl _ _) _) hb5).mono HW.out.size))
        have HO5 := Aside0.mk (Kd.R_below HO.out (below_step (below_alloc (Below.refl _ _) _) hb5))
        go_wp2_with ((with_reducible refine gate_builtin (b := .append) (xs := #[.tmp 94, .tmp 105]) rfl ?_); at_builtin; refine Kd.R_append k23 (w0 := wc) wc.heap.size rfl (.tmp 94) (.tmp 105) 28 23 (.agg #[.int .i64 0, .int .i64 0, .int .i64 0, .int .i64 0]) 32 rfl Try.underlying28 info23 rfl (by decide) (by omega) u9 ((qs.take i).map (piece ⟨f0, f1, f2, f3⟩)) (piece ⟨f0, f1, f2, f3⟩ q) (cS (piece ⟨f0, f1, f2, f3⟩ q)) (fun _ => True) (fun _ => False) rfl rfl (k23_mkM _ _ _ _) (fun _ hk => hk.elim) (fun _ _ => trivial) HO5.out HB5.out (below_size HB5.out) (by simp; omega) ?_; intro v106 w6 ho hb hg hat)
        exact ⟨⟨i + 1, by omega, rfl, ⟨by rw [← HT.out]; exact ho⟩, ⟨hb⟩⟩, by simp [intOf]; omega⟩
      · obtain rfl : i = qs.length := by omega
        go_wp2_with fail
        go_ret2
        rw [List.take_length] at HO
        rw [HCL.out]
        exact ⟨_, rfl, Kd.R_lower HO.out HBW.out.size, HBW.out.trans (HW.out.mono HBW.out.size)⟩
set_option maxRecDepth 100000 in
set_option maxHeartbeats 2000000 in
theorem cuts_zero (r : S23) (w : World) (h0 : r.f0 ≤ 9223372036854775807) (h1 : r.f1 ≤ 9223372036854775807) (hr : regB r = true) :
    Calls Try.prog 15 #[aggS r, .int .i64 0] w fun e w' => ∃ v, e = .returned (.tuple #[v, .int .i64 0]) ∧ Kd.R k23 23 w' w.heap.size (fun _ => True) v (cutsL r 0) ∧ Below w.heap.size w w' := by
  have HT := Aside0.mk (types_any r.f2)
  have HR := Aside0.mk (fun w => region_any r w h0 h1)
  rw [hr] at HR
  have hn0 : 1 ≤ typesN r.f2 := by
    have := (regB_iff.1 hr).1
    rcases this with h | h | h | h <;> rw [h] <;> decide
  obtain ⟨n, hn⟩ : ∃ n, typesN r.f2 = n := ⟨_, rfl⟩
  obtain ⟨m, hm⟩ : ∃ m, typesE r.f2 = m := ⟨_, rfl⟩
  rw [hn, hm] at HT
  rw [hn] at hn0
  clear hn hm hr h0 h1
  have hk3 : ¬ (0 : Int) ≥ n := by omega
  obtain ⟨f0, f1, f2, f3⟩ := r
  dsimp only [aggS] at HT HR ⊢
  go_enter Try.func15, Try.ntmps15
  go_wp2_with fail
  refine (HT.out _).mono ?_
  rintro e w' ⟨rfl, ⟨nd, rfl⟩⟩
  go_wp2_with fail
  refine (HR.out _).mono ?_
  rintro e w2 ⟨rfl, hb⟩
  have hb2 := below_step (pw_below_drewN (below_alloc (Below.refl _ _) _) nd) hb
  have hbox : w2.heap[w.heap.size]? = some (.cells #[.int .i64 f0, .int .i64 f1, .int .i64 f2, .int .i64 f3] 23) := (hb.block _ (by simp)).trans (heap_alloc_new w _)
  have x0 : w2.cell? ⟨w.heap.size, 0, none⟩ = some (.int .i64 f0) := by unfold World.cell?; rw [hbox]; rfl
  have x1 : w2.cell? ⟨w.heap.size, 1, none⟩ = some (.int .i64 f1) := by unfold World.cell?; rw [hbox]; rfl
  have x2 : w2.cell? ⟨w.heap.size, 2, none⟩ = some (.int .i64 f2) := by unfold World.cell?; rw [hbox]; rfl
  have x3 : w2.cell? ⟨w.heap.size, 3, none⟩ = some (.int .i64 f3) := by unfold World.cell?; rw [hbox]; rfl
  clear hbox
  go_wp2_with fail
  go_ret2
  exact ⟨_, rfl, lit_R23 [⟨f0, f1, f2, f3⟩] w2 w.heap.size (fun _ => True) hb2.size trivial (by simp), below_alloc hb2 _⟩
/-- Cuts, of any rectangle and partition. -/
theorem cuts_any (r : S23) (kind : Int) (w : World) (h0 : r.f0 ≤ 9223372036854775807) (h1 : r.f1 ≤ 9223372036854775807) :
    Calls Try.prog 15 #[aggS r, .int .i64 kind] w fun e w' => ∃ v, e = .returned (.tuple #[v, .int .i64 (cutErr r kind)]) ∧ Kd.R k23 23 w' w.heap.size (fun _ => True) v (cutAns r kind) ∧ Below w.heap.size w w' := by
  unfold cutErr cutAns
  cases ho : cutOk r kind with
  | false =>
    refine (cuts_no r kind w h0 h1 ho).mono ?_
    rintro e w' ⟨rfl, hb⟩
    exact ⟨_, rfl, Kd.R_nil _ _ _ _ _, hb⟩
  | true =>
    unfold cutOk at ho
    simp only [Bool.and_eq_true, decide_eq_true_eq] at ho
    obtain ⟨hr, hk0, hk1⟩ := ho
    by_cases hk : kind = 0
    · subst hk
      exact cuts_zero r w h0 h1 hr
    · exact cuts_some r kind w h0 h1 hr (by omega) hk1
end Go.Proofs.Ytjobfnicnoffmaa.Pc
