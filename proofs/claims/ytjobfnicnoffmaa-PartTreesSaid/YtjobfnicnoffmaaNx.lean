/- The closure of part.Blocks that takes the next choice. -/
import Derived.Test.YtjobfnicnoffmaaPh
import Derived.Test.YtjobfnicnoffmaaLi
import Derived.OneCell
namespace Go.Proofs.Ytjobfnicnoffmaa.Nx
open Go.RowKit Go.Proofs.Ytjobfnicnoffmaa.PPartTrees Go.Proofs.YtjobfnicnoffmaaW.PrintWords Go.Proofs.YtjobfnicnoffmaaW.PrintLast Go.Proofs.YtjobfnicnoffmaaW.PrintMore Go.Proofs.Ytjobfnicnoffmaa.Pt Go.Proofs.Ytjobfnicnoffmaa.Ph Go.Proofs.Ytjobfnicnoffmaa.Li

/-- The choices that are left, in their variable's block gl; they themselves lay there from the start. -/
structure Lft (W0 : World) (gl : Nat) (l : List Int) (w : World) : Prop where
  below : Below W0.heap.size W0 w
  far : W0.heap.size ≤ gl
  here : ∃ A c, w.heap[gl]? = some (.cells #[.slice A l.length c] 24 (0, 0)) ∧ Kd.C (Kd.int .i64) W0 A l.length l ∧ l.length ≤ c
theorem emod_back (c n : Int) (hn : 0 < n) : Int.tmod c n % n = c % n := by
  rw [← Int.add_emod_right]
  have h0 := Int.emod_nonneg c (show n ≠ 0 by omega)
  have h1 := Int.emod_lt_of_pos c hn
  have ht : Int.tmod c n = if 0 ≤ c ∨ n ∣ c then c % n else c % n - n := by
    rw [Int.tmod_eq_emod]; split <;> omega
  rw [ht]
  by_cases hc : 0 ≤ c ∨ n ∣ c
  · rw [if_pos hc, Int.add_emod_right, Int.emod_eq_of_lt h0 h1]
  · rw [if_neg hc, show c % n - n + n = c % n by omega, Int.emod_eq_of_lt h0 h1]
theorem tmod_in (c n : Int) (hn : 0 < n) : -n < Int.tmod c n ∧ Int.tmod c n < n := by
  have h0 := Int.emod_nonneg c (show n ≠ 0 by omega)
  have h1 := Int.emod_lt_of_pos c hn
  have ht : Int.tmod c n = if 0 ≤ c ∨ n ∣ c then c % n else c % n - n := by
    rw [Int.tmod_eq_emod]; split <;> omega
  rw [ht]
  by_cases hc : 0 ≤ c ∨ n ∣ c
  · rw [if_pos hc]; omega
  · rw [if_neg hc]
    rcases Int.lt_or_le 0 (c % n) with h | h
    · omega
    · have : c % n = 0 := by omega
      exact absurd (.inr (Int.dvd_of_emod_eq_zero this)) hc
set_option maxRecDepth 100000 in
set_option maxHeartbeats 1000000 in
theorem next_any (W0 : World) (gl : Nat) (l : List Int) (n : Int) (w : World) (h : Lft W0 gl l w) (hn0 : 0 < n) (hn1 : n ≤ 100) :
    Calls Try.prog 26 #[.int .i64 n, .pointer (some ⟨gl, 0, none⟩)] w fun e w' => e = .returned (.int .i64 (nextK n l)) ∧ Lft W0 gl l.tail w' ∧ KeepBut w w' gl none := by
  obtain ⟨hb, hf, A, c, hg, hC, hc⟩ := h
  have HB := Aside0.mk hb
  have HC := Aside0.mk hC
  have HG := Aside0.mk hg
  have c0 : w.cell? ⟨gl, 0, none⟩ = some (.slice A l.length c) := by unfold World.cell?; rw [hg]; rfl
  have hfz : w.frozen? ⟨gl, 0, none⟩ = false := free_of_one hg
  have hlt : gl < w.heap.size := (Array.getElem?_eq_some_iff.1 hg).1
  clear hb hC hg
  cases l with
  | nil =>
    go_enter Try.func26, Try.ntmps26
    go_wp2_with fail
    go_ret
    exact ⟨rfl, ⟨HB.out, hf, A, c, HG.out, HC.out, hc⟩, KeepBut.refl _ _ _⟩
  | cons x t =>
    obtain ⟨ad, rfl, hx⟩ := Kd.at_int (Kd.C_below HC.out HB.out) (0 : Int) (by omega) (by simp)
    have hs := World.cell?_spot hx
    obtain ⟨b, off, spot⟩ := ad
    have hs' : spot = none := hs
    subst hs'
    have hx2 : w.cell? ⟨b, off, none⟩ = some (.int .i64 x) := hx
    have hd := Kd.C_drop (m := 1) HC.out (by simp) hc
    have hm := tmod_in x n hn0
    have hp := emod_back x n hn0
    have HD := Aside0.mk hd
    have HP := Aside0.mk hp
    have hl1 : t.length + 1 ≤ c := hc
    have hmax := Kd.C_max HC.out
    have hl2 : t.length + 1 ≤ 9223372036854775807 := hmax
    clear hs hx hd hp hmax hc
    go_enter Try.func26, Try.ntmps26
    go_wp2_with fail
    all_goals (go_ret; refine ⟨by rw [HP.out]; rfl, ⟨?_, hf, ?_⟩, KeepBut.set_ (KeepBut.refl _ _ _) _ _⟩)
    · exact below_set HB.out hf
    · refine ⟨_, 0, one_setCell HG.out, ?_, show t.length ≤ 0 by omega⟩
      have h := HD.out
      rw [if_pos (by assumption)] at h
      exact h
    · exact below_set HB.out hf
    · refine ⟨_, c - 1, one_setCell HG.out, ?_, show t.length ≤ c - 1 by omega⟩
      have h := HD.out
      rw [if_neg (by assumption)] at h
      exact h
end Go.Proofs.Ytjobfnicnoffmaa.Nx
