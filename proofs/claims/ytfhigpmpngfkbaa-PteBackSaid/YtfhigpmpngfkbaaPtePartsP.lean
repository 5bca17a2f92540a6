/- The printed functions of package field tell what the bit vectors' functions tell. No condition but that the arguments are numbers of their kinds. -/
import Derived.Test.YtfhigpmpngfkbaaPPtePartsx1
import Derived.Test.YtfhigpmpngfkbaaField
namespace Go.Proofs.Ytfhigpmpngfkbaa.PPteParts
open Go.RowKit Go.Proofs.YtfhigpmpngfkbaaW.PrintWords Go.Proofs.YtfhigpmpngfkbaaW.PrintLast Go.Proofs.YtfhigpmpngfkbaaW.PrintMore Go.Proofs.Ytfhigpmpngfkbaa.Bits

theorem field_Mask.eq (w : Int) : field_Mask.f w = some (u (maskI w)) := by
  unfold field_Mask.f maskI
  by_cases h1 : w < 1
  · rw [if_pos h1, show w.toNat = 0 by omega]; rfl
  · rw [if_neg h1]
    by_cases h2 : w ≥ 64
    · rw [if_pos h2, Nat.min_eq_right (by omega)]; rfl
    · rw [if_neg h2, if_pos (by omega), Nat.min_eq_left (by omega)]
      rw [show (1 : Int) = u 1#64 from rfl, shl_u, wrap_sub]; rfl
theorem field_may.eq (a w : Int) : field_may.f a w = some (mayB a w) := by
  unfold field_may.f mayB
  by_cases h1 : w ≥ 0
  · rw [if_pos h1]
    by_cases h2 : w ≤ 64
    · rw [if_pos h2]
      by_cases h3 : a ≥ 0
      · rw [if_pos h3, show wrap64 (64 - w) = 64 - w by unfold wrap64; omega]
        congr 1; rw [decide_eq_decide]; omega
      · rw [if_neg h3]; congr 1; symm; rw [decide_eq_false_iff_not]; omega
    · rw [if_neg h2]; congr 1; symm; rw [decide_eq_false_iff_not]; omega
  · rw [if_neg h1]; congr 1; symm; rw [decide_eq_false_iff_not]; omega
theorem mayB_iff {a w : Int} (h : mayB a w = true) : 0 ≤ w ∧ w ≤ 64 ∧ 0 ≤ a ∧ a ≤ 64 - w := by
  unfold mayB at h; exact of_decide_eq_true h
theorem field_Get.eq (x : BitVec 64) (a w : Int) : field_Get.f (u x) a w = some (u (getI x a w)) := by
  unfold field_Get.f getI
  rw [field_may.eq]; simp only [Option.bind_some]
  by_cases h : mayB a w = true
  · have h0 := mayB_iff h
    rw [if_pos h, if_pos h, if_pos (by omega), field_Mask.eq]; simp only [Option.bind_some]
    rw [shr_u, bits_and]; unfold Bits.get maskI; rw [Nat.min_eq_left (by omega)]
  · rw [if_neg h, if_neg h]; rfl
end Go.Proofs.Ytfhigpmpngfkbaa.PPteParts
