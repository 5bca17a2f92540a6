/- The printed functions of package field tell what the bit vectors' functions tell. No condition but that the arguments are numbers of their kinds. -/
import Derived.Test.YtfhigpmpngfkbaaPFieldTellsx1
import Derived.Test.YtfhigpmpngfkbaaField
namespace Go.Proofs.Ytfhigpmpngfkbaa.PFieldTells
open Go.RowKit Go.Proofs.YtfhigpmpngfkbaaW.PrintWords Go.Proofs.YtfhigpmpngfkbaaW.PrintLast Go.Proofs.YtfhigpmpngfkbaaW.PrintMore Go.Proofs.Ytfhigpmpngfkbaa.Bits

theorem field_Mask.eq (w : Int) : field_Mask.f w = some (u (maskI w)) := by
  unfold field_Mask.f maskI
  by_cases h1 : w < 1
  · rw [if_pos h1, show w.toNat = 0 by omega]; rfl
  · rw [if_neg h1]
    by_cases h2 : w ≥ 64
    · rw [if_pos h2, Nat.min_eq_right (by omega)]; rfl
    · rw [if_neg h2, if_pos (by omega), Nat.min_eq_left (by omega)]
      rw [show (1 : Int) = u 1#64 from rfl, shl_u, wrap_sub]; rfl
theorem field_may.eq (a w : Int) : field_may.f a w = some (mayB a w) := by
  unfold field_may.f mayB
  by_cases h1 : w ≥ 0
  · rw [if_pos h1]
    by_cases h2 : w ≤ 64
    · rw [if_pos h2]
      by_cases h3 : a ≥ 0
      · rw [if_pos h3, show wrap64 (64 - w) = 64 - w by unfold wrap64; omega]
        congr 1; rw [decide_eq_decide]; omega
      · rw [if_neg h3]; congr 1; symm; rw [decide_eq_false_iff_not]; omega
    · rw [if_neg h2]; congr 1; symm; rw [decide_eq_false_iff_not]; omega
  · rw [if_neg h1]; congr 1; symm; rw [decide_eq_false_iff_not]; omega
theorem mayB_iff {a w : Int} (h : mayB a w = true) : 0 ≤ w ∧ w ≤ 64 ∧ 0 ≤ a ∧ a ≤ 64 - w := by
  unfold mayB at h; exact of_decide_eq_true h
theorem field_Get.eq (x : BitVec 64) (a w : Int) : field_Get.f (u x) a w = some (u (getI x a w)) := by
  unfold field_Get.f getI
  rw [field_may.eq]; simp only [Option.bind_some]
  by_cases h : mayB a w = true
  · have h0 := mayB_iff h
    rw [if_pos h, if_pos h, if_pos (by omega), field_Mask.eq]; simp only [Option.bind_some]
    rw [shr_u, bits_and]; unfold Bits.get maskI; rw [Nat.min_eq_left (by omega)]
  · rw [if_neg h, if_neg h]; rfl
theorem field_Put.eq (x : BitVec 64) (a w : Int) (v : BitVec 64) : field_Put.f (u x) a w (u v) = some (u (putI x a w v)) := by
  unfold field_Put.f putI
  rw [field_may.eq]; simp only [Option.bind_some]
  by_cases h : mayB a w = true
  · have h0 := mayB_iff h
    rw [if_pos h, if_pos h, field_Mask.eq]; simp only [Option.bind_some]
    rw [if_pos (by omega), bits_and, shl_u, shl_u, bits_andNot, bits_or]; unfold put maskI; rw [Nat.min_eq_left (by omega)]
  · rw [if_neg h, if_neg h]
theorem field_Sign.eq (x : BitVec 64) (w : Int) : field_Sign.f (u x) w = some (u (signI x w)) := by
  unfold field_Sign.f signI
  by_cases h1 : w < 1
  · rw [if_pos h1, if_neg (by omega)]; rfl
  · rw [if_neg h1]
    by_cases h2 : w > 64
    · rw [if_pos h2, if_neg (by omega)]; rfl
    · rw [if_neg h2, show wrap64 (64 - w) = 64 - w by unfold wrap64; omega, if_pos (by omega), if_pos (by omega)]
      rw [shl_u, wrap64_u, shr_s, wrap_s]; unfold sign
      rw [show (64 - w).toNat = 64 - w.toNat by omega]
theorem field_Fits.eq (k : Nat) (x : BitVec 64) (w : Int) (sg : Bool) : field_Fits.f (k + 1) (s x) w sg = some (fitsI x w sg) := by
  have hf : ∀ b, field_Fits.j0 (k + 1) (s x) w sg b = if b = true then some false else (if sg = true then some (decide (signI x w = x)) else (if s x ≥ 0 then some (decide (x &&& ~~~(maskI w) = 0#64)) else some false)) := by
    intro b
    simp only [field_Fits.j0]
    rw [wrap_s, field_Sign.eq, field_Mask.eq]; simp only [Option.bind_some]
    rw [bits_andNot, show (0 : Int) = u 0#64 from rfl]
    have e1 : ∀ y z : BitVec 64, (u y == u z) = decide (y = z) := by
      intro y z; rw [Bool.eq_iff_iff]; simp [u_eq]
    rw [e1, e1]
  unfold field_Fits.f
  rw [hf, hf]
  by_cases h1 : w < 1
  · rw [if_pos h1, if_pos rfl]; unfold fitsI; rw [if_neg (by omega)]
  · rw [if_neg h1]
    by_cases h2 : w > 64
    · rw [if_pos (decide_eq_true h2)]; unfold fitsI; rw [if_neg (by omega)]
    · rw [if_neg (show ¬ (decide (w > 64) = true) by rw [decide_eq_true_eq]; exact h2)]
      have hw : 1 ≤ w ∧ w ≤ 64 := by omega
      have es : signI x w = sign x w.toNat := by unfold signI; rw [if_pos hw]
      have em : maskI w = mask w.toNat := by unfold maskI; rw [Nat.min_eq_left (by omega)]
      rw [es, em]; unfold fitsI; rw [if_pos hw]
      cases sg
      · simp only [Bool.false_eq_true, if_false]
        by_cases h3 : s x ≥ 0
        · rw [if_pos h3, decide_eq_true (show 0 ≤ s x from h3)]; rfl
        · rw [if_neg h3, decide_eq_false (show ¬ 0 ≤ s x from h3)]; rfl
      · rw [if_pos rfl, if_pos rfl]
end Go.Proofs.Ytfhigpmpngfkbaa.PFieldTells
