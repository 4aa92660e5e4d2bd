/- The reference's Tree: its state in memory; its quarters. -/
import Derived.Test.YtjobfnicnoffmaaRx
import Derived.Test.YtjobfnicnoffmaaTa
import Derived.Deep.RegionHeld3
import Derived.Deep.DeepCutAuto
namespace Go.Proofs.Ytjobfnicnoffmaa.Gq
open Go.RowKit Go.Proofs.Ytjobfnicnoffmaa.PPartTrees Go.Proofs.YtjobfnicnoffmaaW.PrintWords Go.Proofs.YtjobfnicnoffmaaW.PrintLast Go.Proofs.YtjobfnicnoffmaaW.PrintMore Go.Proofs.Ytjobfnicnoffmaa.Pt Go.Proofs.Ytjobfnicnoffmaa.Ph Go.Proofs.Ytjobfnicnoffmaa.Li Go.Proofs.Ytjobfnicnoffmaa.Pc Go.Proofs.Ytjobfnicnoffmaa.Tr Go.Proofs.Ytjobfnicnoffmaa.Rx

/-- A tree that is gone through lies in block g: its area, its choices (they lay there from the start), how many were used, its leaves. -/
structure RT (W0 : World) (g : Nat) (a : S23) (A : Option Addr) (c : Nat) (cs : List Int) (used : Nat) (v : Value) (L : List S23) (w : World) : Prop where
  below : Below W0.heap.size W0 w
  far : W0.heap.size ≤ g
  le : used ≤ cs.length
  blk : w.heap[g]? = some (.cells #[.int .i64 a.f0, .int .i64 a.f1, .int .i64 a.f2, .int .i64 a.f3, .slice A cs.length c, .int .i64 used, v] 61 (0, 0))
  own : Kd.R k23 23 w W0.heap.size (fun k => k ≠ g) v L
section
variable {W0 : World} {g : Nat} {a : S23} {A : Option Addr} {c : Nat} {cs : List Int} {used : Nat} {v : Value} {L : List S23} {w w' : World}
theorem RT.after (h : RT W0 g a A c cs used v L w) (hb : Below w.heap.size w w') : RT W0 g a A c cs used v L w' :=
  ⟨below_step h.below hb, h.far, h.le, (hb.block _ (blk_lt h.blk)).trans h.blk, Kd.R_below h.own hb⟩
theorem RT.glt (h : RT W0 g a A c cs used v L w) : g < w.heap.size := blk_lt h.blk
theorem RT.vlt (h : RT W0 g a A c cs used v L w) (k : Nat) (hk : v.ownBlock = some k) : k < w.heap.size := ((Kd.R_bound h.own).1 k hk).2.2.1
end
/-- A call on the tree: what it makes of the choices that are left and of the leaves. -/
def RCall (fid : FuncId) (W0 : World) (g : Nat) (a : S23) (A : Option Addr) (c : Nat) (cs : List Int) (m : Nat) (q : S23) (f : List Int → List S23 × List Int) : Prop :=
  ∀ (used : Nat) (v : Value) (L : List S23) (w : World), L.length + m ≤ 10000 → RT W0 g a A c cs used v L w →
    Calls Try.prog fid #[.pointer (some ⟨g, 0, none⟩), aggS q] w fun e w' => e = .returned (.tuple #[]) ∧ ∃ (used' : Nat) (v' : Value), cs.drop used' = (f (cs.drop used)).2 ∧
      RT W0 g a A c cs used' v' (L ++ (f (cs.drop used)).1) w' ∧ KeepBut w w' g v.ownBlock ∧ (v'.ownBlock = v.ownBlock ∨ ∃ b, v'.ownBlock = some b ∧ w.heap.size ≤ b)

set_option maxRecDepth 100000 in
set_option maxHeartbeats 2000000 in
theorem quarters_any (W0 : World) (g : Nat) (a : S23) (A : Option Addr) (c : Nat) (cs : List Int) (m : Nat) (r : S23) (sub : S23 → List Int → List S23 × List Int)
    (hsub : ∀ q ∈ cutAns r 3, RCall 35 W0 g a A c cs m q (sub q)) (hlen : ∀ q l, (sub q l).1.length ≤ m) : RCall 37 W0 g a A c cs (4 * m) r (foldQ sub (cutAns r 3)) := by
  intro used v L w hL hT
  have HS := Aside0.mk hsub
  have HT := Aside0.mk hT
  have HLN := Aside0.mk hlen
  have hq4 := cutAns_len r 3
  have HC := Aside0.mk (fun w => rcuts_any r 3 w)
  obtain ⟨qs, hqs⟩ : ∃ qs, cutAns r 3 = qs := ⟨_, rfl⟩
  rw [hqs] at HS HC hq4 ⊢
  obtain ⟨E, hE⟩ : ∃ E, cutErr r 3 = E := ⟨_, rfl⟩
  rw [hE] at HC
  clear hsub hT hlen hqs hE
  obtain ⟨f0, f1, f2, f3⟩ := r
  dsimp only [aggS] at HC ⊢
  go_enter Try.func37, Try.ntmps37
  go_wp2_with fail
  refine (HC.out _).mono ?_
  rintro e w5 ⟨v5, rfl, hr5, hb5⟩
  have hb := below_step (below_alloc (Below.refl w.heap.size w) (.cells #[.int .i64 f0, .int .i64 f1, .int .i64 f2, .int .i64 f3] 23)) hb5
  have HT5 := Aside0.mk (HT.out.after hb)
  have HK5 := Aside0.mk (KeepBut.of_below hb g v.ownBlock)
  rw [World.size_alloc] at hr5
  have HR5 := Aside0.mk (Kd.R_bound hr5)
  obtain ⟨A5, c5, rfl, hl5, -⟩ := Kd.R_reads hr5
  have HF : Aside0 (∀ wr, KeepBut w5 wr g v.ownBlock → Kd.C k23 wr A5 qs.length qs) := ⟨fun wr hk => (Kd.R_reads' (Kd.R_step HR5.out (fun k ok hlt => hk.2 k hlt (by have h1 := ok.2.1; have h2 := HT.out.glt; omega) (fun e => by have h1 := ok.2.1; have h2 := HT.out.vlt k e.symm; omega)))).2.2⟩
  have HO : Aside0 (RT W0 g a A c cs used v (L ++ (foldQ sub (qs.take 0) (cs.drop used)).1) w5) := ⟨by rw [show (foldQ sub (qs.take 0) (cs.drop used)).1 = [] from rfl, List.append_nil]; exact HT5.out⟩
  have HD : Aside0 (cs.drop used = (foldQ sub (qs.take 0) (cs.drop used)).2) := ⟨rfl⟩
  have HKR := Aside0.mk (KeepBut.refl w5 g v.ownBlock)
  clear hr5 hb5 hb HC HT5 HR5
  go_wp2_with fail
  go_loopw [6] (fun v6 wr => ∃ (i used1 : Nat) (v1 : Value), i ≤ qs.length ∧ v6 = .int .i64 i ∧ Aside0 (cs.drop used1 = (foldQ sub (qs.take i) (cs.drop used)).2) ∧ Aside0 (RT W0 g a A c cs used1 v1 (L ++ (foldQ sub (qs.take i) (cs.drop used)).1) wr) ∧ Aside0 (KeepBut w5 wr g v.ownBlock) ∧ Aside0 (v1.ownBlock = v.ownBlock ∨ ∃ b, v1.ownBlock = some b ∧ w5.heap.size ≤ b)) (fun v6 _ => qs.length - (intOf v6).toNat)
  case atStart => exact ⟨0, used, v, Nat.zero_le _, rfl, HD, HO, HKR, ⟨.inl rfl⟩⟩
  case round =>
    clear HO HD HKR
    obtain ⟨i, used1, v1, hi, rfl, HD, HO, HKR, HV⟩ := hrel
    by_cases hlt : i < qs.length
    · obtain ⟨ad, e, c0, c1, c2, c3⟩ := at_T23 (HF.out _ HKR.out) (i : Int) (by omega) (by omega)
      cases e
      have er : rd_T23 qs (i : Int) = qs.getD i z23 := by unfold rd_T23; rw [Int.toNat_natCast]
      rw [er, Int.toNat_natCast] at c0 c1 c2 c3
      obtain ⟨q, eq⟩ : ∃ q, qs.getD i z23 = q := ⟨_, rfl⟩
      have hfl := foldQ_bound HLN.out (qs.take i) (cs.drop used)
      have ht := foldQ_take sub qs (cs.drop used) i hlt q eq
      have hmem : q ∈ qs := by
        rw [← eq, List.getD_eq_getElem?_getD, List.getElem?_eq_getElem hlt]; exact List.getElem_mem _
      rw [eq] at c0 c1 c2 c3
      have hlen1 : (L ++ (foldQ sub (qs.take i) (cs.drop used)).1).length + m ≤ 10000 := by
        rw [List.length_append]
        rw [List.length_take] at hfl
        have : m * min i qs.length ≤ m * 3 := Nat.mul_le_mul_left _ (by omega)
        omega
      have HTQ := Aside0.mk (HS.out q hmem used1 v1 _ wr hlen1 HO.out)
      have HTT := Aside0.mk ht
      clear er eq hfl ht hmem hlen1
      go_wp2_with fail
      refine HTQ.out.mono ?_
      rintro e w7 ⟨rfl, used2, v2, hd2, ht2, hk2, hv2⟩
      rw [HD.out] at hd2 ht2
      have HD2 := Aside0.mk hd2
      have HT2 := Aside0.mk ht2
      have HK2 := Aside0.mk (HKR.out.trans hk2 HV.out)
      have HV2 : Aside0 (v2.ownBlock = v.ownBlock ∨ ∃ b, v2.ownBlock = some b ∧ w5.heap.size ≤ b) := ⟨by
        rcases hv2 with h | ⟨b, h, hb⟩
        · rw [h]; exact HV.out
        · exact .inr ⟨b, h, Nat.le_trans HKR.out.1 hb⟩⟩
      clear hd2 ht2 hk2 hv2 c0 c1 c2 c3
      go_wp2_with fail
      exact ⟨⟨i + 1, used2, v2, by omega, rfl, ⟨by rw [HTT.out]; exact HD2.out⟩, ⟨by rw [HTT.out, ← List.append_assoc]; exact HT2.out⟩, HK2, HV2⟩, by simp [intOf]; omega⟩
    · obtain rfl : i = qs.length := by omega
      rw [List.take_length] at HO HD
      go_wp2_with fail
      go_end0
      exact ⟨rfl, used1, v1, HD.out, HO.out, HK5.out.trans HKR.out (.inl rfl), by
        rcases HV.out with h | ⟨b, h, hb⟩
        · exact .inl h
        · exact .inr ⟨b, h, Nat.le_trans HK5.out.1 hb⟩⟩
end Go.Proofs.Ytjobfnicnoffmaa.Gq
