/- A row that came in, as the walks read it. -/
import Derived.Test.YtjobfnicnoffmaaOpen
import Derived.Test.YtjobfnicnoffmaaPPartTreesx0
namespace Go.Proofs.Ytjobfnicnoffmaa.Rc
open Go.RowKit Go.Proofs.YtjobfnicnoffmaaW.PrintWords Go.Proofs.YtjobfnicnoffmaaW.PrintLast Go.Proofs.YtjobfnicnoffmaaW.PrintMore Go.Proofs.Ytjobfnicnoffmaa.Open

theorem row_C {k : IntKind} {W : World} {a : Option Addr} {len cap : Nat} {zs : List Int} (h : IsRow k W a len cap zs) : (zs.take len).length = len ∧ len ≤ cap ∧ Kd.C (Kd.int k) W a (zs.take len).length (zs.take len) ∧ ∀ x ∈ zs.take len, (Lit.int k x).wf = true := by
  rcases h with ⟨rfl, rfl, rfl, rfl⟩ | ⟨x, rfl, h1, h2, h3, h4, h5⟩
  · exact ⟨rfl, Nat.le_refl _, Kd.C_nil _ _, by simp⟩
  · have hl : (zs.take len).length = len := by rw [List.length_take]; omega
    refine ⟨hl, h1, ?_, fun x hx => h5 x (List.mem_of_mem_take hx)⟩
    refine Kd.C_of_reads (d := 0) ⟨rfl, by unfold maxLen at h2; omega, fun _ => ⟨x, rfl, fun j hj => ?_⟩⟩
    rw [h4 j (by omega), List.getD_eq_getElem?_getD, List.getD_eq_getElem?_getD, List.getElem?_take, if_pos (by omega)]
theorem wf_i64 {a : Int} (h : (Lit.int .i64 a).wf = true) : -9223372036854775808 ≤ a ∧ a ≤ 9223372036854775807 := by
  simp [Lit.wf] at h
  have h1 : IntKind.i64.min ≤ a := h.1
  rw [show IntKind.i64.min = -9223372036854775808 from by decide +kernel] at h1
  exact ⟨h1, by simpa using h.2⟩
end Go.Proofs.Ytjobfnicnoffmaa.Rc
