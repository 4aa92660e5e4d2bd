/- The walk of cover: how often each cell of a square is covered. -/
import Derived.Test.YtjobfnicnoffmaaTr
import Derived.Laws.Tables
import Derived.Laws.CopyOwn
namespace Go.Proofs.Ytjobfnicnoffmaa.Cv
open Go.RowKit Go.Proofs.Ytjobfnicnoffmaa.PPartTrees Go.Proofs.YtjobfnicnoffmaaW.PrintWords Go.Proofs.YtjobfnicnoffmaaW.PrintLast Go.Proofs.YtjobfnicnoffmaaW.PrintMore Go.Proofs.Ytjobfnicnoffmaa.Pt Go.Proofs.Ytjobfnicnoffmaa.Ph Go.Proofs.Ytjobfnicnoffmaa.Li Go.Proofs.Ytjobfnicnoffmaa.Tr

/-- A rectangle, in cells of a region. -/
def Good (r x : S23) (cx cy cw ch : Nat) : Prop := x.f0 = r.f0 + 8 * cx ∧ x.f1 = r.f1 + 8 * cy ∧ x.f2 = 8 * cw ∧ x.f3 = 8 * ch ∧ 1 ≤ cw ∧ 1 ≤ ch ∧ cx + cw ≤ 8 ∧ cy + ch ≤ 8 ∧ 8 * ((cx : Int) + cw) ≤ r.f2 ∧ 8 * ((cy : Int) + ch) ≤ r.f3
def GoodR (r x : S23) : Prop := ∃ cx cy cw ch, Good r x cx cy cw ch
/-- Does it cover cell j? -/
def hit (r x : S23) (j : Nat) : Int := if (x.f0 ≤ r.f0 + 8 * ((j % 8 : Nat) : Int) ∧ r.f0 + 8 * ((j % 8 : Nat) : Int) < x.f0 + x.f2) ∧ (x.f1 ≤ r.f1 + 8 * ((j / 8 : Nat) : Int) ∧ r.f1 + 8 * ((j / 8 : Nat) : Int) < x.f1 + x.f3) then 1 else 0
def cnt (r : S23) (l : List S23) (j : Nat) : Int := (l.map fun x => hit r x j).sum
theorem cnt_nil (r : S23) (j : Nat) : cnt r [] j = 0 := rfl
theorem cnt_append (r : S23) (l m : List S23) (j : Nat) : cnt r (l ++ m) j = cnt r l j + cnt r m j := by unfold cnt; rw [List.map_append, List.sum_append]
theorem cnt_one (r x : S23) (j : Nat) : cnt r [x] j = hit r x j := by unfold cnt; simp
theorem cnt_in (r : S23) (l : List S23) (j : Nat) : 0 ≤ cnt r l j ∧ cnt r l j ≤ l.length := by
  induction l with
  | nil => exact ⟨Int.le_refl _, Int.le_refl _⟩
  | cons x t ih =>
    have h : cnt r (x :: t) j = hit r x j + cnt r t j := by unfold cnt; simp
    rw [h, List.length_cons]
    have : 0 ≤ hit r x j ∧ hit r x j ≤ 1 := by unfold hit; split <;> omega
    omega
theorem hit_good {r x : S23} {cx cy cw ch : Nat} (h : Good r x cx cy cw ch) (j : Nat) : hit r x j = if (cx ≤ j % 8 ∧ j % 8 < cx + cw) ∧ (cy ≤ j / 8 ∧ j / 8 < cy + ch) then 1 else 0 := by
  obtain ⟨h1, h2, h3, h4, -⟩ := h
  unfold hit
  rw [h1, h2, h3, h4]
  by_cases hc : (cx ≤ j % 8 ∧ j % 8 < cx + cw) ∧ (cy ≤ j / 8 ∧ j / 8 < cy + ch)
  · rw [if_pos hc, if_pos (by omega)]
  · rw [if_neg hc, if_neg (by omega)]
/-- Sixty-four numbers in memory. -/
def arrF (f : Nat → Int) : Array Value := ((List.range 64).map fun j => Value.int .i64 (f j)).toArray
theorem arrF_size (f : Nat → Int) : (arrF f).size = 64 := by simp [arrF]
theorem arrF_get (f : Nat → Int) (j : Nat) (h : j < 64) : (arrF f)[j]? = some (.int .i64 (f j)) := by
  unfold arrF; simp [List.getElem?_range h]
theorem arrF_set (f : Nat → Int) (k : Nat) (v : Int) : (arrF f).setIfInBounds k (.int .i64 v) = arrF (fun j => if j = k then v else f j) := by
  unfold arrF
  apply Array.ext
  · simp
  · intro i h1 h2
    rw [Array.getElem_setIfInBounds (by simpa using h1)]
    by_cases hk : i = k
    · subst hk; simp
    · rw [if_neg (fun e => hk e.symm)]; simp [hk]
theorem arrF_congr {f g : Nat → Int} (h : ∀ j, j < 64 → f j = g j) : arrF f = arrF g := by
  unfold arrF
  congr 1
  apply List.map_congr_left
  intro j hj
  rw [h j (List.mem_range.1 hj)]
theorem arrF_one (f : Nat → Int) : (arrF f).all (·.oneCell') = true := by
  unfold arrF
  simp [Value.oneCell']
theorem info46 : (Try.prog.info? 46).map (·.size) = some 64 := by kernel_rfl

theorem zeros_eq : (#[.int .i64 0, .int .i64 0, .int .i64 0, .int .i64 0, .int .i64 0, .int .i64 0, .int .i64 0, .int .i64 0, .int .i64 0, .int .i64 0, .int .i64 0, .int .i64 0, .int .i64 0, .int .i64 0, .int .i64 0, .int .i64 0, .int .i64 0, .int .i64 0, .int .i64 0, .int .i64 0, .int .i64 0, .int .i64 0, .int .i64 0, .int .i64 0, .int .i64 0, .int .i64 0, .int .i64 0, .int .i64 0, .int .i64 0, .int .i64 0, .int .i64 0, .int .i64 0, .int .i64 0, .int .i64 0, .int .i64 0, .int .i64 0, .int .i64 0, .int .i64 0, .int .i64 0, .int .i64 0, .int .i64 0, .int .i64 0, .int .i64 0, .int .i64 0, .int .i64 0, .int .i64 0, .int .i64 0, .int .i64 0, .int .i64 0, .int .i64 0, .int .i64 0, .int .i64 0, .int .i64 0, .int .i64 0, .int .i64 0, .int .i64 0, .int .i64 0, .int .i64 0, .int .i64 0, .int .i64 0, .int .i64 0, .int .i64 0, .int .i64 0, .int .i64 0] : Array Value) = arrF fun _ => 0 := by kernel_rfl
/-- What lies in memory between two rounds: the region, the answer's row, the row that is filled. -/
def St (w : World) (r : S23) (f : Nat → Int) (wr : World) : Prop :=
  wr.heap[w.heap.size]? = some (.cells #[.int .i64 r.f0, .int .i64 r.f1, .int .i64 r.f2, .int .i64 r.f3] 23 (0, 0)) ∧ wr.heap[w.heap.size + 1]? = some (.cells (arrF fun _ => 0) 46 (0, 0)) ∧ wr.heap[w.heap.size + 1 + 1]? = some (.cells (arrF f) 46 (0, 0)) ∧ Below w.heap.size w wr
theorem St.alloc {w wr : World} {r : S23} {f : Nat → Int} (h : St w r f wr) (o : Obj) : St w r f (wr.alloc o) := ⟨old h.1, old h.2.1, old h.2.2.1, below_alloc h.2.2.2 o⟩
theorem St.congr {w wr : World} {r : S23} {f g : Nat → Int} (h : St w r f wr) (hfg : ∀ j, j < 64 → f j = g j) : St w r g wr := ⟨h.1, h.2.1, by rw [← arrF_congr hfg]; exact h.2.2.1, h.2.2.2⟩
theorem St.cell {w wr : World} {r : S23} {f : Nat → Int} (h : St w r f wr) (j : Nat) (hj : j < 64) : wr.cell? ⟨w.heap.size + 1 + 1, j, none⟩ = some (.int .i64 (f j)) ∧ wr.frozen? ⟨w.heap.size + 1 + 1, j, none⟩ = false :=
  ⟨(blk_cell h.2.2.1 j).trans (arrF_get f j hj), frozen_of_row wr _ j _ 46 h.2.2.1⟩
/-- The rectangle's own cells, beside. -/
def Bx (g : Nat) (x : S23) (wr : World) : Prop := wr.heap[g]? = some (.cells #[.int .i64 x.f0, .int .i64 x.f1, .int .i64 x.f2, .int .i64 x.f3] 23 (0, 0))
/-- Rows of a rectangle, up to y, and in row y up to column z. -/
def part2 (f : Nat → Int) (cx cy cw y z j : Nat) : Int := f j + (if (cx ≤ j % 8 ∧ j % 8 < cx + cw) ∧ (cy ≤ j / 8 ∧ j / 8 < y) then 1 else 0) + (if (cx ≤ j % 8 ∧ j % 8 < z) ∧ j / 8 = y then 1 else 0)
theorem part2_next (f : Nat → Int) (cx cy cw y z j : Nat) (hz : cx ≤ z) (hz8 : z < 8) : (if j = y * 8 + z then part2 f cx cy cw y z (y * 8 + z) + 1 else part2 f cx cy cw y z j) = part2 f cx cy cw y (z + 1) j := by
  by_cases hj : j = y * 8 + z
  · subst hj
    rw [if_pos rfl]
    unfold part2
    have h1 : (y * 8 + z) % 8 = z := by omega
    have h2 : (y * 8 + z) / 8 = y := by omega
    rw [h1, h2, if_neg (c := (cx ≤ z ∧ z < z) ∧ y = y) (by omega), if_pos (c := (cx ≤ z ∧ z < z + 1) ∧ y = y) (by omega)]
    omega
  · rw [if_neg hj]
    unfold part2
    congr 1
    by_cases hc : (cx ≤ j % 8 ∧ j % 8 < z) ∧ j / 8 = y
    · rw [if_pos hc, if_pos (by omega)]
    · rw [if_neg hc, if_neg (by omega)]
theorem part2_row (f : Nat → Int) (cx cy cw y j : Nat) (hy : cy ≤ y) : part2 f cx cy cw y (cx + cw) j = part2 f cx cy cw (y + 1) cx j := by
  unfold part2
  by_cases h1 : (cx ≤ j % 8 ∧ j % 8 < cx + cw) ∧ (cy ≤ j / 8 ∧ j / 8 < y)
  · rw [if_pos h1, if_neg (c := (cx ≤ j % 8 ∧ j % 8 < cx + cw) ∧ j / 8 = y) (by omega), if_pos (by omega), if_neg (by omega)]
  · by_cases h2 : (cx ≤ j % 8 ∧ j % 8 < cx + cw) ∧ j / 8 = y
    · rw [if_neg h1, if_pos h2, if_pos (by omega), if_neg (by omega)]; omega
    · rw [if_neg h1, if_neg h2, if_neg (by omega), if_neg (by omega)]
theorem part2_zero (f : Nat → Int) (cx cy cw j : Nat) : part2 f cx cy cw cy cx j = f j := by
  unfold part2; rw [if_neg (by omega), if_neg (by omega)]; omega
theorem part2_all (f : Nat → Int) (cx cy cw ch j : Nat) : part2 f cx cy cw (cy + ch) cx j = f j + (if (cx ≤ j % 8 ∧ j % 8 < cx + cw) ∧ (cy ≤ j / 8 ∧ j / 8 < cy + ch) then 1 else 0) := by
  unfold part2; rw [if_neg (c := (cx ≤ j % 8 ∧ j % 8 < cx) ∧ j / 8 = cy + ch) (by omega)]; omega
theorem St.set {w wr : World} {r : S23} {f : Nat → Int} (h : St w r f wr) (j : Nat) (v : Int) : St w r (fun k => if k = j then v else f k) (wr.setCell ⟨w.heap.size + 1 + 1, j, none⟩ (.int .i64 v)) := by
  refine ⟨(heap_setCell_other _ _ _ _ (by show w.heap.size ≠ w.heap.size + 1 + 1; omega)).trans h.1, (heap_setCell_other _ _ _ _ (by show w.heap.size + 1 ≠ w.heap.size + 1 + 1; omega)).trans h.2.1, ?_, below_set h.2.2.2 (by omega)⟩
  have := heap_setCell_same wr (w.heap.size + 1 + 1) j _ 46 (.int .i64 v) h.2.2.1
  rwa [arrF_set] at this

set_option maxRecDepth 100000 in
set_option maxHeartbeats 4000000 in
theorem cover_any (r : S23) (A : Option Addr) (c : Nat) (l : List S23) (w : World) (hC : Kd.C k23 w A l.length l) (hgood : ∀ x ∈ l, GoodR r x) (hr : (0 ≤ r.f0 ∧ r.f0 ≤ 100000) ∧ (0 ≤ r.f1 ∧ r.f1 ≤ 100000) ∧ r.f2 ≤ 64 ∧ r.f3 ≤ 64) (hl : l.length ≤ 1000) :
    Calls Try.prog 23 #[aggS r, .slice A l.length c] w fun e w' => e = .returned (.tuple #[.agg (arrF (cnt r l)), .bool true]) ∧ Below w.heap.size w w' := by
  have HC := Aside0.mk hC
  have HG := Aside0.mk hgood
  clear hC hgood
  obtain ⟨f0, f1, f2, f3⟩ := r
  dsimp only [aggS] at hr ⊢
  obtain ⟨⟨r00, r01⟩, ⟨r10, r11⟩, r2, r3⟩ := hr
  go_enter Try.func23, Try.ntmps23
  go_wp2_with fail
  obtain ⟨w1, hst⟩ : ∃ w1, ((w.alloc (.cells #[.int .i64 f0, .int .i64 f1, .int .i64 f2, .int .i64 f3] 23)).alloc (.cells #[.int .i64 0, .int .i64 0, .int .i64 0, .int .i64 0, .int .i64 0, .int .i64 0, .int .i64 0, .int .i64 0, .int .i64 0, .int .i64 0, .int .i64 0, .int .i64 0, .int .i64 0, .int .i64 0, .int .i64 0, .int .i64 0, .int .i64 0, .int .i64 0, .int .i64 0, .int .i64 0, .int .i64 0, .int .i64 0, .int .i64 0, .int .i64 0, .int .i64 0, .int .i64 0, .int .i64 0, .int .i64 0, .int .i64 0, .int .i64 0, .int .i64 0, .int .i64 0, .int .i64 0, .int .i64 0, .int .i64 0, .int .i64 0, .int .i64 0, .int .i64 0, .int .i64 0, .int .i64 0, .int .i64 0, .int .i64 0, .int .i64 0, .int .i64 0, .int .i64 0, .int .i64 0, .int .i64 0, .int .i64 0, .int .i64 0, .int .i64 0, .int .i64 0, .int .i64 0, .int .i64 0, .int .i64 0, .int .i64 0, .int .i64 0, .int .i64 0, .int .i64 0, .int .i64 0, .int .i64 0, .int .i64 0, .int .i64 0, .int .i64 0, .int .i64 0] 46)).alloc (.cells #[.int .i64 0, .int .i64 0, .int .i64 0, .int .i64 0, .int .i64 0, .int .i64 0, .int .i64 0, .int .i64 0, .int .i64 0, .int .i64 0, .int .i64 0, .int .i64 0, .int .i64 0, .int .i64 0, .int .i64 0, .int .i64 0, .int .i64 0, .int .i64 0, .int .i64 0, .int .i64 0, .int .i64 0, .int .i64 0, .int .i64 0, .int .i64 0, .int .i64 0, .int .i64 0, .int .i64 0, .int .i64 0, .int .i64 0, .int .i64 0, .int .i64 0, .int .i64 0, .int .i64 0, .int .i64 0, .int .i64 0, .int .i64 0, .int .i64 0, .int .i64 0, .int .i64 0, .int .i64 0, .int .i64 0, .int .i64 0, .int .i64 0, .int .i64 0, .int .i64 0, .int .i64 0, .int .i64 0, .int .i64 0, .int .i64 0, .int .i64 0, .int .i64 0, .int .i64 0, .int .i64 0, .int .i64 0, .int .i64 0, .int .i64 0, .int .i64 0, .int .i64 0, .int .i64 0, .int .i64 0, .int .i64 0, .int .i64 0, .int .i64 0, .int .i64 0] 46) = w1 ∧ St w ⟨f0, f1, f2, f3⟩ (cnt ⟨f0, f1, f2, f3⟩ (l.take 0)) w1 := by
    refine ⟨_, rfl, ?_, ?_, ?_, below_alloc (below_alloc (below_alloc (Below.refl _ _) _) _) _⟩
    · exact old (old (heap_alloc_new w _))
    · have := heap_alloc_new (w.alloc (.cells #[.int .i64 f0, .int .i64 f1, .int .i64 f2, .int .i64 f3] 23)) (.cells (arrF fun _ => 0) 46)
      rw [World.size_alloc] at this
      rw [zeros_eq]
      exact old this
    · have := heap_alloc_new ((w.alloc (.cells #[.int .i64 f0, .int .i64 f1, .int .i64 f2, .int .i64 f3] 23)).alloc (.cells (arrF fun _ => 0) 46)) (.cells (arrF fun _ => 0) 46)
      rw [World.size_alloc, World.size_alloc] at this
      rw [zeros_eq]
      exact this
  obtain ⟨ew1, hst⟩ := hst
  rw [ew1]
  clear ew1
  have HS := Aside0.mk hst
  clear hst
  go_loopw [7] (fun v7 wr => ∃ i : Nat, i ≤ l.length ∧ v7 = .int .i64 i ∧ Aside0 (St w ⟨f0, f1, f2, f3⟩ (cnt ⟨f0, f1, f2, f3⟩ (l.take i)) wr)) (fun v7 _ => l.length - (intOf v7).toNat)
  case atStart => exact ⟨0, Nat.zero_le _, rfl, HS⟩
  case round =>
    clear HS
    obtain ⟨i, hi, rfl, HS⟩ := hrel
    by_cases hlt : i < l.length
    · obtain ⟨ad, e, c0, c1, c2, c3⟩ := at_T23 (Kd.C_below HC.out HS.out.2.2.2) (i : Int) (by omega) (by omega)
      cases e
      have er : rd_T23 l (i : Int) = l.getD i z23 := by unfold rd_T23; rw [Int.toNat_natCast]
      rw [er, Int.toNat_natCast] at c0 c1 c2 c3
      obtain ⟨x, ex⟩ : ∃ x, l.getD i z23 = x := ⟨_, rfl⟩
      have hmem : x ∈ l := by
        rw [← ex, List.getD_eq_getElem?_getD, List.getElem?_eq_getElem hlt]; exact List.getElem_mem _
      have htk : l.take (i + 1) = l.take i ++ [x] := by
        rw [List.take_succ_eq_append_getElem hlt, ← ex, List.getD_eq_getElem?_getD, List.getElem?_eq_getElem hlt]; rfl
      rw [ex] at c0 c1 c2 c3
      obtain ⟨cx, cy, cw, ch, hgd⟩ := HG.out x hmem
      have HGD := Aside0.mk hgd
      have HTK := Aside0.mk htk
      obtain ⟨g1, g2, g3, g4, g5, g6, g7, g8, g9, g10⟩ := hgd
      rw [g1] at c0
      rw [g2] at c1
      rw [g3] at c2
      rw [g4] at c3
      dsimp only at c0 c1 c2 c3 g9 g10
      clear er ex hmem htk g1 g2 g3 g4
      obtain ⟨y0, y1, y2, y3⟩ := box_cells HS.out.1
      have hz : w.heap.size < wr.heap.size := blk_lt HS.out.1
      have d1 : 8 * (cw : Int) % 8 = 0 := by omega
      have d2 : 8 * (ch : Int) % 8 = 0 := by omega
      have d3 : 8 * (cx : Int) % 8 = 0 := by omega
      have d4 : 8 * (cy : Int) % 8 = 0 := by omega
      have d5 : 8 * (cx : Int) / 8 = cx := by omega
      have d6 : 8 * (cy : Int) / 8 = cy := by omega
      have d7 : (8 * (cx : Int) + 8 * (cw : Int)) / 8 = (cx : Int) + cw := by omega
      have d8 : (8 * (cy : Int) + 8 * (ch : Int)) / 8 = (cy : Int) + ch := by omega
      have t1 : decide (8 * (cw : Int) < 8) = false := decide_eq_false (by omega)
      have t2 : decide (8 * (ch : Int) < 8) = false := decide_eq_false (by omega)
      have t3 : decide (64 < 8 * (cw : Int)) = false := decide_eq_false (by omega)
      have t4 : decide (64 < 8 * (ch : Int)) = false := decide_eq_false (by omega)
      have t5 : decide (f0 + 8 * (cx : Int) < f0) = false := decide_eq_false (by omega)
      have t6 : decide (f1 + 8 * (cy : Int) < f1) = false := decide_eq_false (by omega)
      have t7 : decide (f0 + f2 - 8 * (cw : Int) < f0 + 8 * (cx : Int)) = false := decide_eq_false (by omega)
      have t8 : decide (f1 + f3 - 8 * (ch : Int) < f1 + 8 * (cy : Int)) = false := decide_eq_false (by omega)
      have t9 : f0 + 8 * (cx : Int) - f0 = 8 * (cx : Int) := by omega
      have t10 : f1 + 8 * (cy : Int) - f1 = 8 * (cy : Int) := by omega
      have hst := HS.out.alloc (.cells #[.int .i64 (f0 + 8 * (cx : Int)), .int .i64 (f1 + 8 * (cy : Int)), .int .i64 (8 * (cw : Int)), .int .i64 (8 * (ch : Int))] 23)
      have hbx : Bx wr.heap.size ⟨f0 + 8 * (cx : Int), f1 + 8 * (cy : Int), 8 * (cw : Int), 8 * (ch : Int)⟩ (wr.alloc (.cells #[.int .i64 (f0 + 8 * (cx : Int)), .int .i64 (f1 + 8 * (cy : Int)), .int .i64 (8 * (cw : Int)), .int .i64 (8 * (ch : Int))] 23)) := heap_alloc_new wr _
      obtain ⟨F, hF⟩ : ∃ F, cnt ⟨f0, f1, f2, f3⟩ (l.take i) = F := ⟨_, rfl⟩
      rw [hF] at hst
      have HF := Aside0.mk hF
      have HS1 := Aside0.mk (hst.congr (g := part2 F cx cy cw cy cx) (fun j _ => (part2_zero F cx cy cw j).symm))
      have HX1 := Aside0.mk hbx
      have hg8 : wr.heap.size ≠ w.heap.size + 1 + 1 := by have := blk_lt HS.out.2.2.1; omega
      have HFB := Aside0.mk (fun j => show 0 ≤ F j ∧ F j ≤ 1000 from by
        rw [← HF.out]
        have h1 := cnt_in ⟨f0, f1, f2, f3⟩ (l.take i) j
        have h2 : (l.take i).length ≤ 1000 := by rw [List.length_take]; omega
        omega)
      clear hst hbx hF
      go_wp2_with fail
      clear c0 c1 c2 c3 HS y0 y1 y2 y3
      obtain ⟨g8, eg8⟩ : ∃ g8, wr.heap.size = g8 := ⟨_, rfl⟩
      rw [eg8] at hg8 HX1 ⊢
      clear eg8 hz
      go_loopw [9, 10] (fun v9 _ w5 => ∃ y : Nat, (cy ≤ y ∧ y ≤ cy + ch) ∧ v9 = .int .i64 y ∧ Aside0 (St w ⟨f0, f1, f2, f3⟩ (part2 F cx cy cw y cx) w5) ∧ Aside0 (Bx g8 ⟨f0 + 8 * (cx : Int), f1 + 8 * (cy : Int), 8 * (cw : Int), 8 * (ch : Int)⟩ w5)) (fun v9 _ _ => 8 - (intOf v9).toNat)
      case atStart => exact ⟨cy, ⟨Nat.le_refl _, by omega⟩, rfl, HS1, HX1⟩
      case round =>
        clear HS1 HX1
        obtain ⟨y, ⟨hy0, hy1⟩, rfl, HS, HX⟩ := hrel
        obtain ⟨y0, y1, y2, y3⟩ := box_cells HS.out.1
        obtain ⟨c0, c1, c2, c3⟩ := box_cells HX.out
        dsimp only at y0 y1 y2 y3 c0 c1 c2 c3
        by_cases hly : y < cy + ch
        · go_wp2_with fail
          clear c0 c1 c2 c3 y0 y1 y2 y3
          go_loopw [10] (fun v10 w6 => ∃ z : Nat, (cx ≤ z ∧ z ≤ cx + cw) ∧ v10 = .int .i64 z ∧ Aside0 (St w ⟨f0, f1, f2, f3⟩ (part2 F cx cy cw y z) w6) ∧ Aside0 (Bx g8 ⟨f0 + 8 * (cx : Int), f1 + 8 * (cy : Int), 8 * (cw : Int), 8 * (ch : Int)⟩ w6)) (fun v10 _ => 8 - (intOf v10).toNat)
          case atStart => exact ⟨cx, ⟨Nat.le_refl _, by omega⟩, rfl, HS, HX⟩
          case round =>
            clear HS HX
            obtain ⟨z, ⟨hz0, hz1⟩, rfl, HS, HX⟩ := hrel
            obtain ⟨y0, y1, y2, y3⟩ := box_cells HS.out.1
            obtain ⟨c0, c1, c2, c3⟩ := box_cells HX.out
            dsimp only at y0 y1 y2 y3 c0 c1 c2 c3
            by_cases hlz : z < cx + cw
            · obtain ⟨k0, k1⟩ := HS.out.cell (y * 8 + z) (by omega)
              have HS2 := Aside0.mk (HS.out.set (y * 8 + z) (part2 F cx cy cw y z (y * 8 + z) + 1))
              have hpb : 0 ≤ part2 F cx cy cw y z (y * 8 + z) ∧ part2 F cx cy cw y z (y * 8 + z) ≤ 1002 := by
                have := HFB.out (y * 8 + z)
                unfold part2
                split <;> split <;> omega
              obtain ⟨v, hv⟩ : ∃ v, part2 F cx cy cw y z (y * 8 + z) = v := ⟨_, rfl⟩
              have HV := Aside0.mk hv
              rw [hv] at k0 hpb HS2
              clear hv
              go_wp2_with fail
              exact ⟨⟨z + 1, ⟨by omega, by omega⟩, rfl, ⟨HS2.out.congr (fun j _ => by rw [← HV.out]; exact part2_next F cx cy cw y z j hz0 (by omega))⟩, ⟨(heap_setCell_other _ _ _ _ hg8).trans HX.out⟩⟩, by simp [intOf]; omega⟩
            · obtain rfl : z = cx + cw := by omega
              go_wp2_with fail
              exact ⟨⟨y + 1, ⟨by omega, by omega⟩, rfl, ⟨HS.out.congr (fun j _ => part2_row F cx cy cw y j hy0)⟩, HX⟩, by simp [intOf]; omega⟩
        · obtain rfl : y = cy + ch := by omega
          go_wp2_with fail
          exact ⟨⟨i + 1, by omega, rfl, ⟨HS.out.congr (fun j _ => by rw [part2_all, HTK.out, cnt_append, cnt_one, hit_good HGD.out, HF.out])⟩⟩, by simp [intOf]; omega⟩
    · obtain rfl : i = l.length := by omega
      rw [List.take_length] at HS
      have HI := Aside0.mk (fun f => show (Try.prog.info? 46).map (·.size) = some (arrF f).size by rw [arrF_size]; exact info46)
      obtain ⟨s0, s1, s2, s3⟩ := HS.out
      have H4 := Aside0.mk s1
      have H6 := Aside0.mk s2
      have HBW := Aside0.mk s3
      have HI1 := Aside0.mk (HI.out (cnt ⟨f0, f1, f2, f3⟩ l))
      have HSZ := Aside0.mk (show (arrF fun _ => 0).size = (arrF (cnt ⟨f0, f1, f2, f3⟩ l)).size by rw [arrF_size, arrF_size])
      have HON := Aside0.mk (arrF_one (cnt ⟨f0, f1, f2, f3⟩ l))
      clear s0 s1 s2 s3 HS HI
      go_wp2_with (first | (with_reducible refine wpList_load_row rfl 46 (.tmp 6) rfl _ rfl 46 _ (0, 0) _ H6.out Try.underlying46 rfl HI1.out ?_) | (with_reducible refine wpList_store_row rfl 46 (.tmp 4) (.tmp 156) rfl _ _ rfl rfl 46 _ H4.out HI1.out HSZ.out HON.out ?_))
      have hr := results_ct (P := Try.prog) (fn := Try.f23) (p := 4) (u := 5) (ty := 46) rfl
      refine bodyPost_ret (v := .tuple #[.agg (arrF (cnt ⟨f0, f1, f2, f3⟩ l)), .bool true]) (hr _ _ (w.heap.size + 1) 46 _ (0, 0) _ rfl (setRow_heap wr _ _ _ 46 (0, 0) H4.out) Try.underlying46 rfl HI1.out) rfl ⟨rfl, below_setRow HBW.out (by omega) _⟩
end Go.Proofs.Ytjobfnicnoffmaa.Cv
