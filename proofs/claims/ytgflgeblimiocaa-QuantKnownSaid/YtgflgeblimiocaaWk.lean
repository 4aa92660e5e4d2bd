/- Layer 9: 'works' of the statements' package only reads. No conditions. -/
import Derived.Test.YtgflgeblimiocaaSt
namespace Go.Proofs.Ytgflgeblimiocaa.St
open Go.RowKit Go.Proofs.Ytgflgeblimiocaa.PQuantSteps Go.Proofs.YtgflgeblimiocaaW.PrintWords Go.Proofs.YtgflgeblimiocaaW.PrintLast Go.Proofs.YtgflgeblimiocaaW.PrintMore Go.Proofs.Ytgflgeblimiocaa.Q
attribute [local go_sem] max2_int min2_int max_two min_two
set_option maxRecDepth 100000 in
set_option maxHeartbeats 2000000 in
theorem works_quiet (w : World) : Calls Try.prog 13 #[] w fun e w' => e = .returned (.bool true) ∧ Drawn0 w w' := by
  go_enter Try.func13, Try.ntmps13
  go_wp2
  go_ret3; simp only []
  go_wp2
  go_ret3; simp only []
  go_wp2
  go_ret
  exact ⟨rfl, Drawn0.refl _⟩
end Go.Proofs.Ytgflgeblimiocaa.St
