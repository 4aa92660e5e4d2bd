/- The walk of cfl.Ac, of any samples and sizes: what it answers. -/
import Derived.Test.YtnlhciebkcafeaaAcA
import Derived.Test.YtnlhciebkcafeaaAcB
import Derived.Test.YtnlhciebkcafeaaAcN
namespace Go.Proofs.Ytnlhciebkcafeaa.Ac
open Go.RowKit Go.Proofs.Ytnlhciebkcafeaa.PCflAcs Go.Proofs.YtnlhciebkcafeaaW.PrintWords Go.Proofs.YtnlhciebkcafeaaW.PrintLast Go.Proofs.YtnlhciebkcafeaaW.PrintMore Go.Proofs.Ytnlhciebkcafeaa.Cf Go.Proofs.Ytnlhciebkcafeaa.Cp

/-- What Ac answers. -/
def acAns (xs : List Int) (w h : Int) : List Int := if acOk xs w h = true then acs xs w.toNat h.toNat else []
def acErr (xs : List Int) (w h : Int) : Int := if acOk xs w h = true then 0 else 2

theorem cells_of {W : World} {A : Option Addr} {xs : List Int} (h : Kd.C (Kd.int .u8) W A xs.length xs) (hn : 0 < xs.length) :
    ∃ b off, A = some ⟨b, off, none⟩ ∧ ∀ j, j < xs.length → W.cell? ⟨b, off + j, none⟩ = some (.int .u8 (xs.getD j 0)) := by
  obtain ⟨ad, rfl, h0⟩ := Kd.at_int h 0 (by omega) (by omega)
  have hs := World.cell?_spot h0
  obtain ⟨b, off, spot⟩ := ad
  have hs' : spot = none := hs
  subst hs'
  refine ⟨b, off, rfl, fun j hj => ?_⟩
  obtain ⟨ad, e, h1⟩ := Kd.at_int h (j : Int) (by omega) (by omega)
  obtain rfl := Option.some.inj e
  rw [Int.toNat_natCast, rd_nat] at h1
  have ea : ({ block := b, off := off, spot := none } : Addr).add j = ⟨b, off + j, none⟩ := by unfold Addr.add; split <;> simp_all
  rw [ea] at h1
  exact h1

set_option maxHeartbeats 1000000 in
theorem ac_any (A0 : Option Addr) (c0 : Nat) (xs : List Int) (a1 a2 : Int) (w : World) (hby : Bytes xs) (hr : Kd.C (Kd.int .u8) w A0 xs.length xs) (hc : xs.length ≤ c0) (b1 : a1 ≤ 9223372036854775807) (b2 : a2 ≤ 9223372036854775807) :
    Calls Try.prog 9 #[.slice A0 xs.length c0, .int .i64 a1, .int .i64 a2] w fun e w' => ∃ v, e = .returned (.tuple #[v, .int .i64 (acErr xs a1 a2)]) ∧ Kd.R (Kd.int .i64) 3 w' w.heap.size (fun _ => True) v (acAns xs a1 a2) ∧ Below w.heap.size w w' := by
  unfold acAns acErr
  cases ho : acOk xs a1 a2 with
  | false =>
    refine (ac_no A0 xs.length c0 a1 a2 w b1 b2 ho).mono ?_
    rintro e w' ⟨rfl, hb⟩
    exact ⟨_, rfl, Kd.R_nil _ _ _ _ _, hb⟩
  | true =>
    have hs1 : sideB a1 = true := by unfold acOk at ho; simp only [Bool.and_eq_true] at ho; exact ho.1
    have hs2 : sideB a2 = true := by unfold acOk at ho; simp only [Bool.and_eq_true] at ho; exact ho.2.1
    obtain ⟨W, H, rfl, rfl, hW, hW', hW4, hH4, hH, hlen⟩ := acOk_nat ho
    have hpos : 0 < 4 * W * H := Nat.mul_pos (by omega) (by omega)
    obtain ⟨b, off, rfl, hcell⟩ := cells_of hr (by omega)
    have f1 := side_eq (W : Int) b1
    have f2 := side_eq (H : Int) b2
    rw [hs1] at f1
    rw [hs2] at f2
    clear hs1 hs2 ho hr b1 b2
    simp only [if_true, Int.toNat_natCast]
    rcases (show W = 4 ∨ W = 8 ∨ W = 12 ∨ W = 16 ∨ W = 20 ∨ W = 24 ∨ W = 28 ∨ W = 32 by omega) with rfl | rfl | rfl | rfl | rfl | rfl | rfl | rfl
    · exact ac_walk4 b off c0 xs H w hby hH4 hH (by omega) hc hcell f1 f2
    · exact ac_walk8 b off c0 xs H w hby hH4 hH (by omega) hc hcell f1 f2
    · exact ac_walk12 b off c0 xs H w hby hH4 hH (by omega) hc hcell f1 f2
    · exact ac_walk16 b off c0 xs H w hby hH4 hH (by omega) hc hcell f1 f2
    · exact ac_walk20 b off c0 xs H w hby hH4 hH (by omega) hc hcell f1 f2
    · exact ac_walk24 b off c0 xs H w hby hH4 hH (by omega) hc hcell f1 f2
    · exact ac_walk28 b off c0 xs H w hby hH4 hH (by omega) hc hcell f1 f2
    · exact ac_walk32 b off c0 xs H w hby hH4 hH (by omega) hc hcell f1 f2
theorem acAns_len (xs : List Int) (a1 a2 : Int) : (acAns xs a1 a2).length ≤ 1024 := by
  unfold acAns
  split
  · next ho =>
    obtain ⟨W, H, rfl, rfl, hW, hW', hW4, hH4, hH, hlen⟩ := acOk_nat ho
    have := Nat.mul_le_mul hW' hH
    rw [acs_length]; simp only [Int.toNat_natCast]; omega
  · simp
theorem ref_any (xs : List Int) (a1 a2 : Int) (hby : Bytes xs) : ∃ k, zoetroperef13_Ac.f k xs a1 a2 = some (acAns xs a1 a2, acErr xs a1 a2) := by
  unfold acAns acErr
  cases ho : acOk xs a1 a2 with
  | false => obtain ⟨k, h⟩ := ref_no xs a1 a2 ho; exact ⟨k, h⟩
  | true =>
    have ho' := ho
    obtain ⟨W, H, rfl, rfl, _⟩ := acOk_nat ho
    obtain ⟨k, h⟩ := ref_ok xs W H hby ho'
    exact ⟨k, by simpa using h⟩
end Go.Proofs.Ytnlhciebkcafeaa.Ac
