/- What holds of bit fields of words of 64 bits, bit by bit. The width lies from 0 (a sign's: 1) to 64. -/
import Derived.Test.YtpmpibcfmejbfaaKField
namespace Go.Proofs.Ytpmpibcfmejbfaa.Bits

theorem sign_low (x : BitVec 64) (w : Nat) (h1 : 1 ≤ w) (h : w ≤ 64) : sign (x &&& mask w) w = sign x w := by
  apply ext; intro i hi
  rw [sign_bit _ _ _ h1 h hi, sign_bit _ _ _ h1 h hi, BitVec.getLsbD_and, BitVec.getLsbD_and, mask_bit _ _ h, mask_bit _ _ h]
  by_cases h2 : i < w
  · simp [h2]
  · have : w - 1 < w := by omega
    simp [h2, this]
theorem low_eq (x : BitVec 64) (w : Nat) (h : w ≤ 64) : x &&& mask w = x ↔ x &&& ~~~(mask w) = 0#64 := by
  constructor
  · intro e
    apply ext; intro i hi
    have := congrArg (fun y => BitVec.getLsbD y i) e
    simp only [BitVec.getLsbD_and, mask_bit _ _ h] at this
    simp only [BitVec.getLsbD_and, BitVec.getLsbD_not, mask_bit _ _ h, hi, decide_true, Bool.true_and, BitVec.getLsbD_zero]
    rw [← this]; by_cases h2 : i < w <;> simp [h2]
  · intro e
    apply ext; intro i hi
    have := congrArg (fun y => BitVec.getLsbD y i) e
    simp only [BitVec.getLsbD_and, BitVec.getLsbD_not, mask_bit _ _ h, hi, decide_true, Bool.true_and, BitVec.getLsbD_zero] at this
    simp only [BitVec.getLsbD_and, mask_bit _ _ h]
    by_cases h2 : i < w
    · simp [h2]
    · simp only [h2, decide_false, Bool.not_false, Bool.and_true] at this; rw [this]; rfl
theorem sign_mono (x : BitVec 64) (w : Nat) (h1 : 1 ≤ w) (h : w < 64) (e : sign x w = x) : sign x (w + 1) = x := by
  have hb : ∀ i, i < 64 → (if i < w then x.getLsbD i else x.getLsbD (w - 1)) = x.getLsbD i := by
    intro i hi; rw [← sign_bit x w i h1 (by omega) hi, e]
  apply ext; intro i hi
  rw [sign_bit _ _ _ (by omega) (by omega) hi]
  by_cases h2 : i < w + 1
  · rw [if_pos h2]
  · rw [if_neg h2]
    have a1 := hb i hi; rw [if_neg (by omega)] at a1
    have a2 := hb w (by omega); rw [if_neg (by omega)] at a2
    rw [Nat.add_sub_cancel, ← a1, ← a2]
theorem fits_mono (x : BitVec 64) (w : Nat) (h : w < 64) (e : x &&& ~~~(mask w) = 0#64) : sign x (w + 1) = x := by
  have hb : ∀ i, i < 64 → w ≤ i → x.getLsbD i = false := by
    intro i hi hw
    have := congrArg (fun y => BitVec.getLsbD y i) e
    simp only [BitVec.getLsbD_and, BitVec.getLsbD_not, mask_bit _ _ (by omega : w ≤ 64), hi, decide_true, Bool.true_and, BitVec.getLsbD_zero] at this
    simpa [show ¬ i < w by omega] using this
  apply ext; intro i hi
  rw [sign_bit _ _ _ (by omega) (by omega) hi]
  by_cases h2 : i < w + 1
  · rw [if_pos h2]
  · rw [if_neg h2, hb i hi (by omega), hb _ (by omega) (by omega)]
theorem sign_64 (x : BitVec 64) : sign x 64 = x := by
  apply ext; intro i hi; rw [sign_bit _ _ _ (by omega) (by omega) hi, if_pos hi]
theorem sign_sign (x : BitVec 64) (w : Nat) (h1 : 1 ≤ w) (h : w ≤ 64) : sign (sign x w) w = sign x w := by
  apply ext; intro i hi
  rw [sign_bit _ _ _ h1 h hi]
  by_cases h2 : i < w
  · rw [if_pos h2]
  · rw [if_neg h2, sign_bit _ _ _ h1 h (by omega), sign_bit _ _ _ h1 h hi, if_pos (by omega), if_neg h2]
theorem get_put (x : BitVec 64) (a w : Nat) (v : BitVec 64) (h : a + w ≤ 64) : get (put x a w v) a w = v &&& mask w := by
  apply ext; intro i hi
  rw [get_bit _ _ _ _ (by omega), BitVec.getLsbD_and, mask_bit _ _ (by omega)]
  by_cases h2 : i < w
  · rw [put_bit _ _ _ _ _ (by omega) (by omega), if_pos (by omega), Nat.add_sub_cancel_left]; simp [h2]
  · simp [h2]
theorem put_put (x : BitVec 64) (a w : Nat) (v : BitVec 64) (h : a + w ≤ 64) : put (put x a w v) a w v = put x a w v := by
  apply ext; intro i hi
  rw [put_bit _ _ _ _ _ (by omega) hi, put_bit _ _ _ _ _ (by omega) hi]
  by_cases h2 : a ≤ i ∧ i < a + w
  · rw [if_pos h2, if_pos h2]
  · rw [if_neg h2]
theorem put_get (x : BitVec 64) (a w : Nat) (h : a + w ≤ 64) : put x a w (get x a w) = x := by
  apply ext; intro i hi
  rw [put_bit _ _ _ _ _ (by omega) hi]
  by_cases h2 : a ≤ i ∧ i < a + w
  · rw [if_pos h2, get_bit _ _ _ _ (by omega), show a + (i - a) = i by omega]; simp; omega
  · rw [if_neg h2]
theorem get_apart (x : BitVec 64) (a w b k : Nat) (v : BitVec 64) (h : a + w ≤ 64) (h' : b + k ≤ 64) (ha : a + w ≤ b ∨ b + k ≤ a) :
    get (put x a w v) b k = get x b k := by
  apply ext; intro i hi
  rw [get_bit _ _ _ _ (by omega), get_bit _ _ _ _ (by omega)]
  by_cases h2 : i < k
  · rw [put_bit _ _ _ _ _ (by omega) (by omega), if_neg (by omega)]
  · simp [h2]
theorem put_parts (x : BitVec 64) (a w k : Nat) (v : BitVec 64) (h : a + w ≤ 64) (hk : k ≤ w) :
    put (put x a k v) (a + k) (w - k) (v >>> k) = put x a w v := by
  apply ext; intro i hi
  rw [put_bit _ _ _ _ _ (by omega) hi, put_bit _ _ _ _ _ (by omega) hi, put_bit _ _ _ _ _ (by omega) hi, BitVec.getLsbD_ushiftRight]
  by_cases h1 : a ≤ i ∧ i < a + k
  · rw [if_neg (by omega), if_pos h1, if_pos (by omega)]
  · by_cases h2 : a ≤ i ∧ i < a + w
    · rw [if_pos (by omega), if_pos h2]; congr 1; omega
    · rw [if_neg (by omega), if_neg h1, if_neg h2]
theorem get_parts (x : BitVec 64) (a w k : Nat) (h : a + w ≤ 64) (hk : k < w) :
    get x a w = get x a k ||| (get x (a + k) (w - k) <<< k) := by
  apply ext; intro i hi
  rw [BitVec.getLsbD_or, BitVec.getLsbD_shiftLeft, get_bit _ _ _ _ (by omega), get_bit _ _ _ _ (by omega), get_bit _ _ _ _ (by omega)]
  by_cases h1 : i < k
  · have h2 : i < w := by omega
    simp [h1, h2]
  · by_cases h2 : i < w
    · have h3 : i - k < w - k := by omega
      have h4 : a + k + (i - k) = a + i := by omega
      simp [h1, h2, h3, h4, hi]
    · have h3 : ¬ i - k < w - k := by omega
      simp [h1, h2, h3]
end Go.Proofs.Ytpmpibcfmejbfaa.Bits
