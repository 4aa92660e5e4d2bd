/- The walk of the law PartCuts. -/
import Derived.Test.YtjobfnicnoffmaaRx
import Derived.Test.YtjobfnicnoffmaaRc
namespace Go.Proofs.Ytjobfnicnoffmaa.Lc
open Go.RowKit Go.Proofs.Ytjobfnicnoffmaa.PPartTrees Go.Proofs.YtjobfnicnoffmaaW.PrintWords Go.Proofs.YtjobfnicnoffmaaW.PrintLast Go.Proofs.YtjobfnicnoffmaaW.PrintMore Go.Proofs.Ytjobfnicnoffmaa.Pt Go.Proofs.Ytjobfnicnoffmaa.Ph Go.Proofs.Ytjobfnicnoffmaa.Li Go.Proofs.Ytjobfnicnoffmaa.Pc Go.Proofs.Ytjobfnicnoffmaa.Tr Go.Proofs.Ytjobfnicnoffmaa.Wk Go.Proofs.Ytjobfnicnoffmaa.Rx

theorem rsame_round (k : Nat) (l : List S23) (i : Nat) (hi : i < l.length) (hl : l.length ≤ 100000) : zoetroperef16_Same.l0 (k + 1) l l i = zoetroperef16_Same.l0 k l l (i + 1 : Nat) := by
  rw [zoetroperef16_Same.l0]
  have e1 := w64 (n := (i : Int) + 1) (by omega) (by omega)
  rw [if_pos (by omega), if_pos (by omega), if_pos (by omega), if_neg (by simp), e1]
  rfl
theorem rsame_loop (l : List S23) (hl : l.length ≤ 100000) (d : Nat) : ∀ i : Nat, i + d = l.length → zoetroperef16_Same.l0 (d + 1) l l i = some true := by
  induction d with
  | zero => intro i h; rw [zoetroperef16_Same.l0, if_neg (by omega)]
  | succ d ih => intro i h; rw [rsame_round (d + 1) l i (by omega) hl]; exact ih (i + 1) (by omega)
theorem rsame_self (l : List S23) (hl : l.length ≤ 100000) : zoetroperef16_Same.f (l.length + 1) l l = some true := by
  unfold zoetroperef16_Same.f
  rw [if_pos rfl]
  exact rsame_loop l hl l.length 0 (by simp)
theorem rsame_any (A B : Option Addr) (c d : Nat) (l : List S23) (w : World) (h1 : Kd.C k23 w A l.length l) (h2 : l.length ≤ c) (h3 : Kd.C k23 w B l.length l) (h4 : l.length ≤ d) (hl : l.length ≤ 100000) :
    Calls Try.prog 19 #[.slice A l.length c, .slice B l.length d] w fun e w' => e = .returned (.bool true) ∧ Drawn0 w w' := zoetroperef16_Same.calls (l.length + 1) A c l B d l true w h1 h2 h3 h4 (rsame_self l hl)

theorem size23 : (Try.prog.info? 23).map (·.size) = some 4 := by kernel_rfl
/-- What stands in an element's cells, to be written over. -/
theorem old_cells {W : World} {base g n cap : Nat} {ok : Nat → Prop} {ys : List S23} (h : Kd.R k23 23 W base ok (.slice (some ⟨g, 0, none⟩) n cap) ys) (i : Nat) (hi : i < n) : ∃ c : List Value, c.length = 4 ∧ ∀ j u, c[j]? = some u → W.cell? ⟨g, (i : Int).toNat * 4 + j, none⟩ = some u := by
  obtain ⟨A, c', he, hl, hC⟩ := Kd.R_reads h
  injection he with e1 e2 e3
  subst e1
  subst e2
  obtain ⟨ad, c, e, hcl, -, hc⟩ := Kd.C_get hC z23 (i : Int) (by omega) (by omega)
  obtain rfl := Option.some.inj e
  refine ⟨c, hcl, fun j u hj => ?_⟩
  have h1 : W.cell? (({ block := g, off := 0, spot := none } : Addr).add ((i : Int).toNat * 4 + j)) = some u := hc j u hj
  have ea : ({ block := g, off := 0, spot := none } : Addr).add ((i : Int).toNat * 4 + j) = ⟨g, (i : Int).toNat * 4 + j, none⟩ := by unfold Addr.add; split <;> simp_all
  rwa [ea] at h1
def zeroV : List Value := [.int .i64 0, .int .i64 0, .int .i64 0, .int .i64 0]
theorem zero_M (W : World) (base : Nat) (c : List Value) (hc : c.length = 4) : k23.M W base (fun _ => False) z23 (c.take 0 ++ zeroV ++ c.drop (0 + 4)) := by
  rw [List.drop_eq_nil_of_le (by omega)]
  exact k23_mkM W base (fun _ => False) z23

set_option maxRecDepth 100000 in
set_option maxHeartbeats 4000000 in
theorem cuts_walk (r : S23) (size kind : Int) (w : World) (h0 : r.f0 ≤ 9223372036854775807) (h1 : r.f1 ≤ 9223372036854775807) :
    Calls Try.prog 5 #[aggS r, .int .i64 size, .int .i64 kind] w fun e w' => e = .returned (.bool true) ∧ Below w.heap.size w w' := by
  have HC := Aside0.mk (fun k w => cuts_any r k w h0 h1)
  have HR := Aside0.mk (fun k w => rcuts_any r k w)
  have HLN := Aside0.mk (fun k => cutAns_len r k)
  obtain ⟨n, hn⟩ : ∃ n, typesN size = n := ⟨_, rfl⟩
  obtain ⟨m, hm⟩ : ∃ m, typesE size = m := ⟨_, rfl⟩
  have HT1 := Aside0.mk (types_any size)
  have HT2 := Aside0.mk (rtypes_any size)
  rw [hn, hm] at HT1 HT2
  obtain ⟨Cf, hCf⟩ : ∃ Cf, (fun k => cutAns r k) = Cf := ⟨_, rfl⟩
  obtain ⟨Ef, hEf⟩ : ∃ Ef, (fun k => cutErr r k) = Ef := ⟨_, rfl⟩
  have HC' : Aside0 (∀ (k : Int) (w : World), Calls Try.prog 15 #[aggS r, .int .i64 k] w fun e w' => ∃ v, e = .returned (.tuple #[v, .int .i64 (Ef k)]) ∧ Kd.R k23 23 w' w.heap.size (fun _ => True) v (Cf k) ∧ Below w.heap.size w w') := ⟨by rw [← hCf, ← hEf]; exact HC.out⟩
  have HR' : Aside0 (∀ (k : Int) (w : World), Calls Try.prog 18 #[aggS r, .int .i64 k] w fun e w' => ∃ v, e = .returned (.tuple #[v, .int .i64 (Ef k)]) ∧ Kd.R k23 23 w' w.heap.size (fun _ => True) v (Cf k) ∧ Below w.heap.size w w') := ⟨by rw [← hCf, ← hEf]; exact HR.out⟩
  have HLN' : Aside0 (∀ k, (Cf k).length ≤ 4) := ⟨by rw [← hCf]; exact HLN.out⟩
  clear hn hm h0 h1 HC HR HLN hCf hEf
  obtain ⟨f0, f1, f2, f3⟩ := r
  dsimp only [aggS] at HC' HR' ⊢
  go_enter Try.func5, Try.ntmps5
  go_wp2_with fail
  have hbox := heap_alloc_new w (.cells #[.int .i64 f0, .int .i64 f1, .int .i64 f2, .int .i64 f3] 23)
  have hb1 := below_alloc (Below.refl w.heap.size w) (.cells #[.int .i64 f0, .int .i64 f1, .int .i64 f2, .int .i64 f3] 23)
  obtain ⟨w1, ew1⟩ : ∃ w1, w.alloc (.cells #[.int .i64 f0, .int .i64 f1, .int .i64 f2, .int .i64 f3] 23) = w1 := ⟨_, rfl⟩
  rw [ew1] at hbox hb1 ⊢
  have HBOX := Aside0.mk hbox
  have HB1 := Aside0.mk hb1
  clear ew1 hbox hb1
  refine (HT1.out _).mono ?_
  rintro e w' ⟨rfl, ⟨nd, rfl⟩⟩
  go_wp2_with fail
  refine (HT2.out _).mono ?_
  rintro e w' ⟨rfl, ⟨nd2, rfl⟩⟩
  go_wp2_with fail
  have HB0 := Aside0.mk (pw_below_drewN (Below.refl w1.heap.size w1) (nd + nd2))
  go_loopw [11] (fun v11 wr => ∃ i : Nat, i ≤ 13 ∧ v11 = .int .i64 ((i : Int) - 1) ∧ Aside0 (Below w1.heap.size w1 wr)) (fun v11 _ => 13 - (intOf v11 + 1).toNat)
  case atStart => exact ⟨0, by omega, rfl, HB0⟩
  case round =>
    clear HB0
    obtain ⟨i, hi, rfl, HB⟩ := hrel
    by_cases hlt : i < 13
    · go_upto_if 42 with fail
      go_cut [12] (fun s12 wx => (∃ K : Int, s12 = .int .i64 K) ∧ Aside0 (Below w1.heap.size w1 wx))
      case first =>
        go_wp2_with fail
        all_goals (go_meet; exact ⟨⟨_, rfl⟩, HB⟩)
      case rest =>
        clear HB
        obtain ⟨⟨K, rfl⟩, HB⟩ := hcut
        obtain ⟨x0, x1, x2, x3⟩ := box_cells ((HB.out.block _ (blk_lt HBOX.out)).trans HBOX.out)
        go_wp2_with fail
        refine (HC'.out _ _).mono ?_
        rintro e w3 ⟨v3, rfl, hr3, hb3⟩
        have HB3 := Aside0.mk (HB.out.trans (hb3.mono HB.out.size))
        have HR3 := Aside0.mk hr3
        have HBC := Aside0.mk hb3
        clear hr3 hb3 x0 x1 x2 x3
        obtain ⟨x0, x1, x2, x3⟩ := box_cells ((HB3.out.block _ (blk_lt HBOX.out)).trans HBOX.out)
        go_wp2_with fail
        refine (HR'.out _ _).mono ?_
        rintro e w4 ⟨v4, rfl, hr4, hb4⟩
        have hb34 := hb4
        have hr3 := Kd.R_below HR3.out hb4
        have HB4 := Aside0.mk (HB3.out.trans (hb4.mono HB3.out.size))
        have HBC4 := Aside0.mk (HBC.out.trans (hb4.mono HBC.out.size))
        have HLK := HLN'.out K
        obtain ⟨A3, c3, rfl, hl3, hC3⟩ := Kd.R_reads hr3
        obtain ⟨A4, c4, rfl, hl4, hC4⟩ := Kd.R_reads hr4
        have HR3' := Aside0.mk hr3
        have HC3 := Aside0.mk hC3
        have HC4 := Aside0.mk hC4
        clear hr3 hr4 hb4 hb34 hC3 hC4 x0 x1 x2 x3 HR3
        obtain ⟨L, eL⟩ : ∃ L, Cf K = L := ⟨_, rfl⟩
        rw [eL] at HR3' HC3 HC4 hl3 hl4 HLK ⊢
        obtain ⟨E, eE⟩ : ∃ E, Ef K = E := ⟨_, rfl⟩
        rw [eE]
        clear eL eE
        go_wp2_with fail
        refine (rsame_any A3 A4 c3 c4 L _ HC3.out hl3 HC4.out hl4 (by omega)).mono ?_
        rintro e w5 ⟨rfl, ⟨nd3, rfl⟩⟩
        have HO := Aside0.mk (Kd.R_drewN HR3'.out nd3)
        have HB5 := Aside0.mk (pw_below_drewN HB4.out nd3)
        clear HR3' HC3 HC4
        have HBD := Aside0.mk (pw_below_drewN HBC4.out nd3)
        clear HB3 HB4 HBC HBC4 HB5
        go_wp2_with fail
        go_loopw [17] (fun v17 w6 => ∃ (j : Nat) (ys : List S23), j ≤ L.length ∧ ys.length = L.length ∧ v17 = .int .i64 j ∧ Aside0 (Kd.R k23 23 w6 wc.heap.size (fun _ => True) (.slice A3 L.length c3) ys) ∧ Aside0 (Below wc.heap.size wc w6)) (fun v17 _ => L.length - (intOf v17).toNat)
        case atStart => exact ⟨0, L, Nat.zero_le _, rfl, rfl, HO, HBD⟩
        case round =>
          clear HO HBD
          obtain ⟨j, ys, hj, hys, rfl, HO, HBD⟩ := hrel
          by_cases hlj : j < L.length
          · obtain ⟨g, cp, he, gb, gl, cells, hgc⟩ := Kd.R_form HO.out (by omega)
            injection he with ea en ec
            subst ea
            subst ec
            clear en gl hgc cells gb
            obtain ⟨c, hcl, hcc⟩ := old_cells HO.out j hlj
            have HCC := Aside0.mk hcc
            clear hcc
            go_wp2_with (refine Kd.R_store k23 (w0 := wc) wc.heap.size rfl rfl 23 (.tmp 74) (.tmp 73) rfl 23 (j : Int) 0 ys z23 (.agg #[.int .i64 0, .int .i64 0, .int .i64 0, .int .i64 0]) zeroV c (fun _ => True) (fun _ => False) rfl rfl rfl rfl size23 (by unfold zeroV; decide) HO.out (by omega) (by omega) hcl HCC.out (by decide) (zero_M _ _ c hcl) (fun _ hk => hk.elim) HBD.out ?_; intro w7 ho hb hg)
            exact ⟨⟨j + 1, ys.set (j : Int).toNat z23, by omega, by rw [List.length_set]; exact hys, rfl, ⟨ho⟩, ⟨hb⟩⟩, by simp [intOf]; omega⟩
          · obtain rfl : j = L.length := by omega
            go_wp2_with fail
            exact ⟨⟨i + 1, by omega, by rw [Int.natCast_add]; simp, ⟨HB.out.trans (HBD.out.mono HB.out.size)⟩⟩, by simp [intOf]; omega⟩
    · obtain rfl : i = 13 := by omega
      go_wp2_with fail
      refine (works_any _).mono ?_
      rintro e w6 ⟨rfl, hb6⟩
      go_wp2_with fail
      go_ret
      have hb := HB.out.trans (hb6.mono HB.out.size)
      exact ⟨rfl, HB1.out.trans (hb.mono HB1.out.size)⟩

theorem law_cuts (n0 n1 n2 n3 size kind : Int) (W : World) (w0 : (Lit.int .i64 n0).wf = true) (w1 : (Lit.int .i64 n1).wf = true) (_ : (Lit.int .i64 n2).wf = true) (_ : (Lit.int .i64 n3).wf = true) (_ : (Lit.int .i64 size).wf = true) (_ : (Lit.int .i64 kind).wf = true) :
    Calls Try.prog 5 #[.agg #[.int .i64 n0, .int .i64 n1, .int .i64 n2, .int .i64 n3], .int .i64 size, .int .i64 kind] W fun e w' => e = .returned (.bool true) ∧ Below W.heap.size W w' :=
  cuts_walk ⟨n0, n1, n2, n3⟩ size kind W (Rc.wf_i64 w0).2 (Rc.wf_i64 w1).2
end Go.Proofs.Ytjobfnicnoffmaa.Lc
