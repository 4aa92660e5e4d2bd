/- QuantRise: steps rise with base and with delta, and lie between 4 and 1613; a frame that loses nothing has steps of 4. No conditions. The walk is St.law_rise. -/
import Derived.Test.YtgflgeblimiocaaRows
import Derived.Test.YtgflgeblimiocaaRi
import Derived.Test.YtgflgeblimiocaaOpen
import Derived.WalkKit
import Derived.ProofKit
import Derived.OpenShut
import Derived.ShutString
import Derived.ChangeOld
import Derived.Below
import Derived.SizedLaws
namespace Go.Proofs.Ytgflgeblimiocaa.quantRise
open Go.ChangeShapes Go.WideShapes Go.ChangeAt Go.RowKit Go.Proofs.Ytgflgeblimiocaa.Open
open Go.ChangeMaps (open_string shut_string)
set_option linter.unusedVariables false
theorem own : ownKnob Try.prog.godebug = none := by kernel_rfl
theorem laidOut : laidOutB Try.prog = true := by kernel_rfl
theorem types36 : Try.prog.cellTypes Try.prog.depth 36 = some [4, 3, 4, 4, 3, 3, 3, 3, 3, 3, 3, 3, 3, 3, 3, 3, 3, 4, 3, 3, 3, 3, 3, 4, 3, 3, 33, 4, 4, 4] := by kernel_rfl
theorem cells36 : Try.prog.cellsOf 36 = 30 := by kernel_rfl
set_option maxRecDepth 100000 in
theorem form36 {w : World} {r : Reach} {base : Nat} {v : Value} (h : Value.okWide Try.prog w r base 36 v) : ∃ (c0 c1 c2 c3 c4 c5 c6 c7 c8 c15 c16 c17 c18 c19 c20 c21 c22 c23 c24 c25 c26 c27 c28 c29 : Value) (n9 n10 n11 n12 n13 n14 : Int), v = .agg #[c0, c1, c2, c3, c4, c5, c6, c7, c8, .int .i64 n9, .int .i64 n10, .int .i64 n11, .int .i64 n12, .int .i64 n13, .int .i64 n14, c15, c16, c17, c18, c19, c20, c21, c22, c23, c24, c25, c26, c27, c28, c29] ∧ (Lit.int .i64 n9).wf = true ∧ (Lit.int .i64 n10).wf = true ∧ (Lit.int .i64 n11).wf = true ∧ (Lit.int .i64 n12).wf = true ∧ (Lit.int .i64 n13).wf = true ∧ (Lit.int .i64 n14).wf = true := by
  obtain ⟨cs, rfl, hs, hr⟩ := okWide_flat Try.underlying36 rfl h
  rw [cells36] at hs
  obtain ⟨l⟩ := cs
  have hl0 : l.length = 30 := by simpa using hs
  clear hs h
  obtain ⟨c0, l1, rfl, hl1⟩ := len_succ hl0
  obtain ⟨c1, l2, rfl, hl2⟩ := len_succ hl1
  obtain ⟨c2, l3, rfl, hl3⟩ := len_succ hl2
  obtain ⟨c3, l4, rfl, hl4⟩ := len_succ hl3
  obtain ⟨c4, l5, rfl, hl5⟩ := len_succ hl4
  obtain ⟨c5, l6, rfl, hl6⟩ := len_succ hl5
  obtain ⟨c6, l7, rfl, hl7⟩ := len_succ hl6
  obtain ⟨c7, l8, rfl, hl8⟩ := len_succ hl7
  obtain ⟨c8, l9, rfl, hl9⟩ := len_succ hl8
  obtain ⟨c9, l10, rfl, hl10⟩ := len_succ hl9
  obtain ⟨c10, l11, rfl, hl11⟩ := len_succ hl10
  obtain ⟨c11, l12, rfl, hl12⟩ := len_succ hl11
  obtain ⟨c12, l13, rfl, hl13⟩ := len_succ hl12
  obtain ⟨c13, l14, rfl, hl14⟩ := len_succ hl13
  obtain ⟨c14, l15, rfl, hl15⟩ := len_succ hl14
  obtain ⟨c15, l16, rfl, hl16⟩ := len_succ hl15
  obtain ⟨c16, l17, rfl, hl17⟩ := len_succ hl16
  obtain ⟨c17, l18, rfl, hl18⟩ := len_succ hl17
  obtain ⟨c18, l19, rfl, hl19⟩ := len_succ hl18
  obtain ⟨c19, l20, rfl, hl20⟩ := len_succ hl19
  obtain ⟨c20, l21, rfl, hl21⟩ := len_succ hl20
  obtain ⟨c21, l22, rfl, hl22⟩ := len_succ hl21
  obtain ⟨c22, l23, rfl, hl23⟩ := len_succ hl22
  obtain ⟨c23, l24, rfl, hl24⟩ := len_succ hl23
  obtain ⟨c24, l25, rfl, hl25⟩ := len_succ hl24
  obtain ⟨c25, l26, rfl, hl26⟩ := len_succ hl25
  obtain ⟨c26, l27, rfl, hl27⟩ := len_succ hl26
  obtain ⟨c27, l28, rfl, hl28⟩ := len_succ hl27
  obtain ⟨c28, l29, rfl, hl29⟩ := len_succ hl28
  obtain ⟨c29, l30, rfl, hl30⟩ := len_succ hl29
  obtain rfl := List.eq_nil_of_length_eq_zero hl30
  obtain ⟨n9, rfl, w9⟩ := flat_int hr types36 Try.underlying3 (i := 9) rfl rfl
  obtain ⟨n10, rfl, w10⟩ := flat_int hr types36 Try.underlying3 (i := 10) rfl rfl
  obtain ⟨n11, rfl, w11⟩ := flat_int hr types36 Try.underlying3 (i := 11) rfl rfl
  obtain ⟨n12, rfl, w12⟩ := flat_int hr types36 Try.underlying3 (i := 12) rfl rfl
  obtain ⟨n13, rfl, w13⟩ := flat_int hr types36 Try.underlying3 (i := 13) rfl rfl
  obtain ⟨n14, rfl, w14⟩ := flat_int hr types36 Try.underlying3 (i := 14) rfl rfl
  exact ⟨c0, c1, c2, c3, c4, c5, c6, c7, c8, c15, c16, c17, c18, c19, c20, c21, c22, c23, c24, c25, c26, c27, c28, c29, n9, n10, n11, n12, n13, n14, rfl, w9, w10, w11, w12, w13, w14⟩
set_option maxRecDepth 100000 in
theorem lifted (os : Os) (started : os.Started) (H : Type) (enc : TypeId × Value → H) :
    ReturnsInHanded {} Try.checked os 7 .any (Rows.quantRiseSpec.pre6 enc Try.prog Try.f7 Rows.quantRiseRow.domain false) (Rows.quantRiseSpec.post enc Try.prog Try.f7 false true false false) := by
  refine returnsInHanded_of_change_sized (C := Try.checked) own started (by kernel_rfl) Try.func7
    (ChangeSpec.witness6 (enc := enc) (C := Try.checked) false ⟨#[], #[.int .i64 0, .int .i64 0, .agg #[.bool false, .int .i64 0, .bool false, .bool false, .int .i64 0, .int .i64 0, .int .i64 0, .int .i64 0, .int .i64 0, .int .i64 0, .int .i64 0, .int .i64 0, .int .i64 0, .int .i64 0, .int .i64 0, .int .i64 0, .int .i64 0, .bool false, .int .i64 0, .int .i64 0, .int .i64 0, .int .i64 0, .int .i64 0, .bool false, .int .i64 0, .int .i64 0, .slice none 0 0, .bool false, .bool false, .bool false]], []⟩ 8 (by kernel_rfl) (by kernel_rfl) (by kernel_rfl) (by kernel_rfl)) ?_
  intro W base args ds gs before hval0 hW hcnd hsz0 _
  have hsz : (DataW.weightsEach Try.prog (Try.f7.params.toList ++ Rows.quantRiseSpec.plain.varTypes Try.prog) (ds ++ gs)).all (· ≤ reachBytes) = true := hsz0
  have hval : ∀ (j : Nat) t v, Try.f7.params[j]? = some t → args[j]? = some v → Value.okWide Try.prog W .any base t v := hval0
  have hW' := hW
  obtain ⟨p, q, hA0, hV, rfl, hfz, hnd⟩ := hW
  have hA : DataW.TrodAll enc Try.prog W 0 (fun _ => true) true Try.f7.params.toList args.toList ds p := hA0
  rw [Try.params7] at hA hval hsz
  obtain ⟨v0, vs0, d0, ds0, p0, q0, hargs, rfl, rfl, h0, r0⟩ := trodAll_cons hA
  obtain ⟨v1, vs1, d1, ds1, p1, q1, rfl, rfl, rfl, h1, r1⟩ := trodAll_cons r0
  obtain ⟨v2, vs2, d2, ds2, p2, q2, rfl, rfl, rfl, h2, r2⟩ := trodAll_cons r1
  obtain ⟨rfl, rfl, rfl⟩ := trodAll_nil r2
  obtain rfl : args = #[v0, v1, v2] := by cases args; simp_all
  obtain ⟨rfl, rfl⟩ := trodVars_none hV
  obtain ⟨a0, rfl, rfl, rfl, w0⟩ := open_int Try.underlying3 (hval 0 3 v0 rfl rfl) h0
  obtain ⟨a1, rfl, rfl, rfl, w1⟩ := open_int Try.underlying3 (hval 1 3 v1 rfl rfl) h1
  have k2 := h2
  have lt2 : ∀ x ∈ p2, x.block < W.heap.size := by obtain ⟨m, hm⟩ := k2; exact DataW.trod_lt m _ _ _ hm
  obtain ⟨c2_0, c2_1, c2_2, c2_3, c2_4, c2_5, c2_6, c2_7, c2_8, c2_15, c2_16, c2_17, c2_18, c2_19, c2_20, c2_21, c2_22, c2_23, c2_24, c2_25, c2_26, c2_27, c2_28, c2_29, n2_9, n2_10, n2_11, n2_12, n2_13, n2_14, rfl, w2_9, w2_10, w2_11, w2_12, w2_13, w2_14⟩ := form36 (hval 2 36 v2 rfl rfl)
  clear hA0 hval0 hsz0 hsz
  refine (St.law_rise a0 a1 c2_0 c2_1 c2_2 c2_3 c2_4 c2_5 c2_6 c2_7 c2_8 c2_15 c2_16 c2_17 c2_18 c2_19 c2_20 c2_21 c2_22 c2_23 c2_24 c2_25 c2_26 c2_27 c2_28 c2_29 n2_9 n2_10 n2_11 n2_12 n2_13 n2_14 W ).mono fun e W' ⟨he, bel⟩ => ?_
  subst he
  exact ⟨_, rfl, _, _, _, [], _, [], hW', trodAll_mk1 (shut_bool Try.underlying4 _), (trodAll_cons_mk (shut_int Try.underlying3 w0) (trodAll_cons_mk (shut_int Try.underlying3 w1) (trodAll_cons_mk (Below.trod laidOut (by kernel_rfl) (of_decide_eq_true (by kernel_rfl)) k2 bel lt2) trodAll_mk0))), rfl, bel.frame _, fun h => by cases h⟩
theorem over : Rows.quantRiseRow.holds Try.pinned (OpenSpec.ofChange Rows.quantRiseSpec) :=
  OpenClaim.holds_of_wide 7 Try.f7 rfl rfl rfl rfl rfl rfl rfl ⟨rfl, rfl, rfl, rfl, rfl⟩ rfl rfl rfl rfl rfl (by kernel_rfl) Try.func7 (by kernel_rfl)
    (of_decide_eq_true (by kernel_rfl)) (by unfold Func.isWrapper; first | (rw [if_pos (by decide +kernel)]; kernel_rfl) | (rw [if_neg (by decide +kernel)]; exact ⟨rfl, rfl⟩))
    (fun os started H enc _ => lifted os started H enc)
theorem proved : Rows.QuantRiseSaid := over
end Go.Proofs.Ytgflgeblimiocaa.quantRise
namespace Go.Proofs.Ytgflgeblimiocaa
theorem quantRise_holds : Rows.QuantRiseSaid := quantRise.proved
end Go.Proofs.Ytgflgeblimiocaa
