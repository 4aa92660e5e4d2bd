/- slices.Grow of nil, and slices.Concat of two rows of rectangles. -/
import Derived.Test.YtjobfnicnoffmaaLi
import Derived.Lib.AppendZeros
namespace Go.Proofs.Ytjobfnicnoffmaa.Gr
open Go.RowKit Go.Proofs.Ytjobfnicnoffmaa.PPartTrees Go.Proofs.YtjobfnicnoffmaaW.PrintWords Go.Proofs.YtjobfnicnoffmaaW.PrintLast Go.Proofs.YtjobfnicnoffmaaW.PrintMore Go.Proofs.Ytjobfnicnoffmaa.Li

theorem grow_zero (w : World) : Calls Try.prog 36 #[.slice none 0 0, .int .i64 0] w fun e w' => e = .returned (.slice none 0 0) ∧ w' = w := by
  go_enter Try.func36, Try.ntmps36
  go_wp2
  go_ret
  exact ⟨rfl, rfl⟩
theorem zero_size (n : Nat) : (Builtin.zeroCells (Value.agg #[.int .i64 0, .int .i64 0, .int .i64 0, .int .i64 0]).cells n).size = n * 4 := by
  simp [Builtin.zeroCells, Value.cells]
set_option maxHeartbeats 1000000 in
theorem grow_some (n : Nat) (w : World) (h0 : 0 < n) (hn : n ≤ 100000) :
    Calls Try.prog 36 #[.slice none 0 0, .int .i64 n] w fun e w' => ∃ v, e = .returned v ∧ Kd.R k23 23 w' w.heap.size (fun _ => True) v [] ∧ Below w.heap.size w w' := by
  obtain ⟨i0, hi, hzz⟩ := Option.map_eq_some_iff.1 info23
  simp only [Prod.mk.injEq] at hzz
  obtain ⟨hz0, hz1, hz2⟩ := hzz
  have hr := fun ty => Lib.run_append_nil_zeros (P := Try.prog) w 28 3 ty 23 i0 _ .i64 .i64 Try.underlying28 Try.underlying3 hi hz0 n h0 (by omega) (by omega) (by rw [hz2]; omega)
  have hG1 := grownCap_ge w n 0 23
  have hG2 := grownCap_le_maxLen w n 0 23 (by unfold maxLen; omega)
  obtain ⟨G, hG⟩ : ∃ G, grownCap w n 0 23 = G := ⟨_, rfl⟩
  rw [hG] at hr hG1 hG2
  obtain ⟨cs, hcs⟩ : ∃ cs, Builtin.zeroCells (Value.agg #[.int .i64 0, .int .i64 0, .int .i64 0, .int .i64 0]).cells n ++ Builtin.zeroCells (Value.agg #[.int .i64 0, .int .i64 0, .int .i64 0, .int .i64 0]).cells (G - n) = cs := ⟨_, rfl⟩
  have hsz : cs.size = G * 4 := by rw [← hcs, Array.size_append, zero_size, zero_size]; omega
  rw [hcs] at hr
  have HR := Aside0.mk hr
  have HSZ := Aside0.mk hsz
  have hG3 : 0 ≤ G := Nat.zero_le _
  have HG2 := Aside0.mk hG2
  clear hG hcs hz0 hz1 hz2 hi hr hsz
  unfold maxLen at hG2
  go_enter Try.func36, Try.ntmps36
  go_wp2_with (at_builtin; refine Lib.wpList_append_run _ rfl _ _ _ _ rfl _ _ rfl rfl _ _ (HR.out _) ?_)
  go_ret
  exact ⟨_, rfl, row_none w.drew 23 w.heap.size G cs (fun _ => True) (Nat.le_refl _) trivial HG2.out HSZ.out, below_alloc (below_drew (Below.refl _ _)) _⟩
theorem grow_any (n : Nat) (w : World) (hn : n ≤ 100000) :
    Calls Try.prog 36 #[.slice none 0 0, .int .i64 n] w fun e w' => ∃ v, e = .returned v ∧ Kd.R k23 23 w' w.heap.size (fun _ => True) v [] ∧ Below w.heap.size w w' := by
  rcases Nat.eq_zero_or_pos n with rfl | h0
  · refine (grow_zero w).mono ?_
    rintro e w' ⟨rfl, rfl⟩
    exact ⟨_, rfl, Kd.R_nil _ _ _ _ _, Below.refl _ _⟩
  · exact grow_some n w h0 hn

set_option maxRecDepth 100000 in
set_option maxHeartbeats 2000000 in
theorem concat_two (A1 A2 : Option Addr) (d1 d2 : Nat) (xs ys : List S23) (g t : Nat) (fr : Nat × Nat) (w : World) (hg : w.heap[g]? = some (.cells #[.slice A1 xs.length d1, .slice A2 ys.length d2] t fr)) (h1 : Kd.C k23 w A1 xs.length xs) (h2 : Kd.C k23 w A2 ys.length ys) (hx : xs.length ≤ 1000) (hy : ys.length ≤ 1000) :
    Calls Try.prog 30 #[.slice (some ⟨g, 0, none⟩) 2 2] w fun e w' => ∃ v, e = .returned v ∧ Kd.R k23 23 w' w.heap.size (fun _ => True) v (xs ++ ys) ∧ Below w.heap.size w w' := by
  have hlt : g < w.heap.size := (Array.getElem?_eq_some_iff.1 hg).1
  have c0 : w.cell? ⟨g, 0, none⟩ = some (.slice A1 xs.length d1) := by unfold World.cell?; rw [hg]; rfl
  have c1 : w.cell? ⟨g, 1, none⟩ = some (.slice A2 ys.length d2) := by unfold World.cell?; rw [hg]; rfl
  have H1 := Aside0.mk h1
  have H2 := Aside0.mk h2
  have HG := Aside0.mk hg
  clear h1 h2 hg
  go_enter Try.func30, Try.ntmps30
  go_wp2_with fail
  go_loop [3, 5, 11] (fun v3 _ v11 => (v11 = .int .i64 0 ∧ v3 = .int .i64 0) ∨ (v11 = .int .i64 1 ∧ v3 = .int .i64 xs.length) ∨ (v11 = .int .i64 2 ∧ v3 = .int .i64 ((xs.length + ys.length : Nat) : Int))) (fun _ _ v11 => 2 - (intOf v11).toNat)
  case atStart => exact .inl ⟨rfl, rfl⟩
  case round =>
    rcases hrel with ⟨rfl, rfl⟩ | ⟨rfl, rfl⟩ | ⟨rfl, rfl⟩
    · go_wp2_with fail
      exact ⟨.inr (.inl ⟨rfl, rfl⟩), by simp [intOf]⟩
    · go_wp2_with fail
      exact ⟨.inr (.inr ⟨rfl, by rw [Int.natCast_add]⟩), by simp [intOf]⟩
    · have hA := grow_any (xs.length + ys.length) w (by omega)
      rw [Int.natCast_add] at hA
      go_wp2_with fail
      refine hA.mono ?_
      rintro e w3 ⟨v3, rfl, hr3, hb3⟩
      have HB := Aside0.mk hb3
      have HO := Aside0.mk hr3
      clear hA hb3 hr3
      go_wp2_with fail
      go_loopw [6, 8, 27] (fun v6 _ v27 wr => ((v27 = .int .i64 0 ∧ Aside0 (Kd.R k23 23 wr w.heap.size (fun _ => True) v6 [])) ∨ (v27 = .int .i64 1 ∧ Aside0 (Kd.R k23 23 wr w.heap.size (fun _ => True) v6 xs)) ∨ (v27 = .int .i64 2 ∧ Aside0 (Kd.R k23 23 wr w.heap.size (fun _ => True) v6 (xs ++ ys)))) ∧ Aside0 (Below w.heap.size w wr)) (fun _ _ v27 _ => 2 - (intOf v27).toNat)
      case atStart => exact ⟨.inl ⟨rfl, HO⟩, HB⟩
      case round =>
        clear HO HB
        obtain ⟨hcase, HB⟩ := hrel
        have hgr := (HB.out.block _ hlt).trans HG.out
        have c0 : wr.cell? ⟨g, 0, none⟩ = some (.slice A1 xs.length d1) := by unfold World.cell?; rw [hgr]; rfl
        have c1 : wr.cell? ⟨g, 1, none⟩ = some (.slice A2 ys.length d2) := by unfold World.cell?; rw [hgr]; rfl
        have C1 := Kd.C_below H1.out HB.out
        have C2 := Kd.C_below H2.out HB.out
        have HC1 := Aside0.mk C1
        have HC2 := Aside0.mk C2
        clear hgr C1 C2
        have km : ∀ {x : S23} {cs : List Value} {ok : Nat → Prop}, k23.K wr x cs → k23.M wr w.heap.size ok x cs := fun h => by rw [k23_open h]; exact k23_mkM _ _ _ _
        have KM := Aside0.mk @km
        rcases hcase with ⟨rfl, HO⟩ | ⟨rfl, HO⟩ | ⟨rfl, HO⟩
        · clear km
          go_wp2_with ((with_reducible refine gate_builtin (b := .append) (xs := #[.tmp 31, .tmp 32]) rfl ?_); at_builtin; refine Kd.R_append_rows k23 (w0 := w) w.heap.size rfl (.tmp 31) (.tmp 32) 28 23 (.agg #[.int .i64 0, .int .i64 0, .int .i64 0, .int .i64 0]) 32 rfl Try.underlying28 info23 rfl (by decide) (by omega) u6 ([] : List S23) xs A1 xs.length d1 (fun _ => True) (fun _ => False) rfl rfl HO.out HC1.out (fun _ _ h => KM.out h) (fun _ hk => hk.elim) (fun _ _ => trivial) HB.out (below_size HB.out) (by first | (simp; omega) | omega) ?_; intro v33 w6 ho hb hg hat)
          exact ⟨⟨.inr (.inl ⟨rfl, ⟨ho⟩⟩), ⟨hb⟩⟩, by simp [intOf]⟩
        · clear km
          go_wp2_with ((with_reducible refine gate_builtin (b := .append) (xs := #[.tmp 31, .tmp 32]) rfl ?_); at_builtin; refine Kd.R_append_rows k23 (w0 := w) w.heap.size rfl (.tmp 31) (.tmp 32) 28 23 (.agg #[.int .i64 0, .int .i64 0, .int .i64 0, .int .i64 0]) 32 rfl Try.underlying28 info23 rfl (by decide) (by omega) u6 xs ys A2 ys.length d2 (fun _ => True) (fun _ => False) rfl rfl HO.out HC2.out (fun _ _ h => KM.out h) (fun _ hk => hk.elim) (fun _ _ => trivial) HB.out (below_size HB.out) (by first | (simp; omega) | omega) ?_; intro v33 w6 ho hb hg hat)
          exact ⟨⟨.inr (.inr ⟨rfl, ⟨ho⟩⟩), ⟨hb⟩⟩, by simp [intOf]⟩
        · clear km KM
          go_wp2_with fail
          go_ret
          exact ⟨_, rfl, HO.out, HB.out⟩
end Go.Proofs.Ytjobfnicnoffmaa.Gr
