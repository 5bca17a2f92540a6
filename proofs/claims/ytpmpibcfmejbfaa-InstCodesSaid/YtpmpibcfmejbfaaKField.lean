/- Bit fields of words of 64 bits as bit vectors: masks, parts, signs, and what holds of their bits. No condition. -/
import Derived.Test.YtpmpibcfmejbfaaKBits
namespace Go.Proofs.Ytpmpibcfmejbfaa.Bits

/-- The lowest bits of a word, so many, are 1. -/
def mask (w : Nat) : BitVec 64 := (1#64 <<< w) - 1#64
def get (x : BitVec 64) (a w : Nat) : BitVec 64 := (x >>> a) &&& mask w
def put (x : BitVec 64) (a w : Nat) (v : BitVec 64) : BitVec 64 := (x &&& ~~~(mask w <<< a)) ||| ((v &&& mask w) <<< a)
def sign (x : BitVec 64) (w : Nat) : BitVec 64 := (x <<< (64 - w)).sshiftRight (64 - w)

theorem mask_toNat (w : Nat) (h : w ≤ 64) : (mask w).toNat = 2 ^ w - 1 := by
  unfold mask
  rw [BitVec.toNat_sub, BitVec.toNat_shiftLeft, Nat.shiftLeft_eq]
  have h1 : (1#64).toNat = 1 := rfl
  rw [h1, Nat.one_mul]
  by_cases e : w = 64
  · subst e; decide
  · have : 2 ^ w < 2 ^ 64 := Nat.pow_lt_pow_right (by omega) (by omega)
    have h0 : 0 < 2 ^ w := Nat.two_pow_pos w
    rw [Nat.mod_eq_of_lt this]; simp only [Nat.reducePow] at *; omega

theorem mask_bit (w i : Nat) (h : w ≤ 64) : (mask w).getLsbD i = decide (i < w) := by
  show (mask w).toNat.testBit i = _
  rw [mask_toNat w h, Nat.testBit_two_pow_sub_one]

theorem get_bit (x : BitVec 64) (a w i : Nat) (h : w ≤ 64) : (get x a w).getLsbD i = (decide (i < w) && x.getLsbD (a + i)) := by
  unfold get
  rw [BitVec.getLsbD_and, mask_bit w i h, BitVec.getLsbD_ushiftRight, Bool.and_comm]

theorem put_bit (x : BitVec 64) (a w : Nat) (v : BitVec 64) (i : Nat) (h : w ≤ 64) (hi : i < 64) :
    (put x a w v).getLsbD i = if a ≤ i ∧ i < a + w then v.getLsbD (i - a) else x.getLsbD i := by
  unfold put
  simp only [BitVec.getLsbD_or, BitVec.getLsbD_and, BitVec.getLsbD_not, BitVec.getLsbD_shiftLeft, mask_bit _ _ h, hi, decide_true, Bool.true_and]
  by_cases h1 : i < a
  · rw [if_neg (by omega)]; simp [h1]
  · by_cases h2 : i < a + w
    · rw [if_pos ⟨by omega, h2⟩]
      have : i - a < w := by omega
      simp [h1, this]
    · rw [if_neg (by omega)]
      have : ¬ i - a < w := by omega
      simp [h1, this]

theorem sign_bit (x : BitVec 64) (w i : Nat) (h1 : 1 ≤ w) (h : w ≤ 64) (hi : i < 64) :
    (sign x w).getLsbD i = if i < w then x.getLsbD i else x.getLsbD (w - 1) := by
  unfold sign
  rw [BitVec.getLsbD_sshiftRight]
  have hn : ¬ 64 ≤ i := by omega
  rw [BitVec.getLsbD_shiftLeft]
  by_cases h2 : i < w
  · rw [if_pos h2, if_pos (by omega)]
    have e : 64 - w + i - (64 - w) = i := by omega
    have e2 : ¬ 64 - w + i < 64 - w := by omega
    have e3 : 64 - w + i < 64 := by omega
    simp [e, e2, e3]
    omega
  · rw [if_neg h2, if_neg (by omega)]
    rw [BitVec.msb_eq_getLsbD_last, BitVec.getLsbD_shiftLeft]
    have e : 64 - 1 - (64 - w) = w - 1 := by omega
    have e2 : ¬ 64 - 1 < 64 - w := by omega
    simp [e, e2]
    omega

theorem ext {x y : BitVec 64} (h : ∀ i, i < 64 → x.getLsbD i = y.getLsbD i) : x = y :=
  BitVec.eq_of_getLsbD_eq fun i hi => h i hi

/-- May a field be? -/
def mayB (a w : Int) : Bool := decide (0 ≤ w ∧ w ≤ 64 ∧ 0 ≤ a ∧ a ≤ 64 - w)
def getI (x : BitVec 64) (a w : Int) : BitVec 64 := if mayB a w = true then get x a.toNat w.toNat else 0#64
def putI (x : BitVec 64) (a w : Int) (v : BitVec 64) : BitVec 64 := if mayB a w = true then put x a.toNat w.toNat v else x
def signI (x : BitVec 64) (w : Int) : BitVec 64 := if 1 ≤ w ∧ w ≤ 64 then sign x w.toNat else 0#64
def maskI (w : Int) : BitVec 64 := mask (min w.toNat 64)
def fitsI (x : BitVec 64) (w : Int) (sg : Bool) : Bool :=
  if 1 ≤ w ∧ w ≤ 64 then (if sg = true then decide (sign x w.toNat = x) else decide (0 ≤ s x) && decide (x &&& ~~~(mask w.toNat) = 0#64)) else false
end Go.Proofs.Ytpmpibcfmejbfaa.Bits
