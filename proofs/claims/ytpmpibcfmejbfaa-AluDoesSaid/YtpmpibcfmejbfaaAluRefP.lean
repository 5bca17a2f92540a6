/- The reference's functions for bit fields, bit by bit, tell what the bit vectors' functions tell. No condition but that the arguments are numbers of their kinds. -/
import Derived.Test.YtpmpibcfmejbfaaPAluDoesx5
import Derived.Test.YtpmpibcfmejbfaaAluDoesP
import Derived.Test.YtpmpibcfmejbfaaFieldLaws
namespace Go.Proofs.Ytpmpibcfmejbfaa.PAluDoes
open Go.RowKit Go.Proofs.YtpmpibcfmejbfaaW.PrintWords Go.Proofs.YtpmpibcfmejbfaaW.PrintLast Go.Proofs.YtpmpibcfmejbfaaW.PrintMore Go.Proofs.Ytpmpibcfmejbfaa.Bits

/-- The bits below a place are told by a function, the others are 0. -/
def Upto (y : BitVec 64) (f : Nat → Bool) (n : Nat) : Prop := ∀ t, t < 64 → y.getLsbD t = (decide (t < n) && f t)
theorem upto_zero (f : Nat → Bool) : Upto 0#64 f 0 := fun t _ => by simp
theorem one_bit (x : BitVec 64) (j i t : Nat) (hi : i < 64) (ht : t < 64) : (((x >>> j) &&& 1#64) <<< i).getLsbD t = (decide (t = i) && x.getLsbD j) := by
  rw [BitVec.getLsbD_shiftLeft, BitVec.getLsbD_and, BitVec.getLsbD_ushiftRight, BitVec.getLsbD_one]
  by_cases h : t = i
  · subst h; simp [ht]
  · by_cases h2 : t < i
    · simp [h2, h]
    · have : ¬ t - i = 0 := by omega
      simp [h, this]
theorem upto_step {y : BitVec 64} {f : Nat → Bool} {i : Nat} (h : Upto y f i) (hi : i < 64) (x : BitVec 64) (j : Nat) (hf : x.getLsbD j = f i) :
    Upto (y ||| (((x >>> j) &&& 1#64) <<< i)) f (i + 1) := by
  intro t ht
  rw [BitVec.getLsbD_or, h t ht, one_bit x j i t hi ht, hf]
  by_cases h1 : t = i
  · subst h1; simp
  · by_cases h2 : t < i
    · have : t < i + 1 := by omega
      simp [h2, this, h1]
    · have : ¬ t < i + 1 := by omega
      simp [h2, this, h1]
theorem upto_eq {y z : BitVec 64} {f : Nat → Bool} {n : Nat} (h : Upto y f n) (hz : ∀ t, t < 64 → z.getLsbD t = (decide (t < n) && f t)) : y = z :=
  Bits.ext fun t ht => (h t ht).trans (hz t ht).symm
theorem succ_nat (i : Nat) (h : i < 64) : wrap64 ((i : Int) + 1) = ((i + 1 : Nat) : Int) := by unfold wrap64; omega
theorem wrap_small (n : Nat) (h : n ≤ 128) : IntKind.u64.wrap ((n : Int)) = (n : Int) := by rw [wrap_u64]; omega
theorem bit_term (y x : BitVec 64) (i j : Nat) : Go.bits .or .u64 (u y) (shl .u64 (Go.bits .and .u64 (shr .u64 (u x) (j : Int)) 1) (i : Int)) = u (y ||| (((x >>> j) &&& 1#64) <<< i)) := by
  rw [shr_u, show (1 : Int) = u 1#64 from rfl, bits_and, shl_u, bits_or, Int.toNat_natCast, Int.toNat_natCast]

theorem mintmarkref01_may.eq (a w : Int) : mintmarkref01_may.f a w = some (mayB a w) := field_may.eq a w

theorem get_loop (x : BitVec 64) (a w : Nat) (haw : a + w ≤ 64) (d : Nat) : ∀ (k i : Nat) (y : BitVec 64), i + d = w → d < k → Upto y (fun t => x.getLsbD (a + t)) i →
    ∃ z, mintmarkref01_Get.l0 k (u x) a w (u y) i = some (u z) ∧ Upto z (fun t => x.getLsbD (a + t)) w := by
  have hm : mintmarkref01_may.f (a : Int) (w : Int) = some true := by rw [mintmarkref01_may.eq]; congr 1; exact decide_eq_true (by omega)
  induction d with
  | zero =>
    intro k i y h hk hy
    obtain ⟨k, rfl⟩ : ∃ m, k = m + 1 := ⟨k - 1, by omega⟩
    refine ⟨y, ?_, by rw [← h]; exact hy⟩
    simp only [mintmarkref01_Get.l0]
    rw [hm]; simp only [Option.bind_some, if_true]
    rw [if_neg (by omega)]
  | succ d ih =>
    intro k i y h hk hy
    obtain ⟨k, rfl⟩ : ∃ m, k = m + 1 := ⟨k - 1, by omega⟩
    have hi : i < 64 := by omega
    have hs := upto_step hy hi x (a + i) rfl
    obtain ⟨z, hz, hu⟩ := ih k (i + 1) _ (by omega) (by omega) hs
    refine ⟨z, ?_, hu⟩
    simp only [mintmarkref01_Get.l0]
    rw [hm]; simp only [Option.bind_some, if_true]
    have e1 : IntKind.u64.wrap (wrap64 ((a : Int) + (i : Int))) = ((a + i : Nat) : Int) := by rw [wrap_u64]; unfold wrap64; omega
    rw [if_pos (by omega), e1, if_pos (by omega), wrap_small i (by omega), if_pos (by omega), succ_nat i hi, bit_term]; exact hz
theorem get_out (k : Nat) (x a w y i : Int) (h : ¬ mayB a w = true) : mintmarkref01_Get.l0 (k + 1) x a w y i = some y := by
  simp only [mintmarkref01_Get.l0]
  rw [mintmarkref01_may.eq]; simp only [Option.bind_some]; rw [if_neg h]
theorem mintmarkref01_Get.eq (x : BitVec 64) (a w : Int) : mintmarkref01_Get.f 65 (u x) a w = some (u (getI x a w)) := by
  unfold mintmarkref01_Get.f getI
  by_cases h : mayB a w = true
  · have h0 := mayB_iff h
    rw [if_pos h]
    obtain ⟨a, rfl⟩ := Int.eq_ofNat_of_zero_le h0.2.2.1
    obtain ⟨w, rfl⟩ := Int.eq_ofNat_of_zero_le h0.1
    obtain ⟨z, hz, hu⟩ := get_loop x a w (by omega) w 65 0 0#64 (by omega) (by omega) (upto_zero _)
    have : z = Bits.get x a w := upto_eq hu fun t ht => get_bit _ _ _ _ (by omega)
    rw [Int.toNat_natCast, Int.toNat_natCast, ← this]; exact hz
  · rw [if_neg h]; exact get_out 64 (u x) a w 0 0 h

theorem sign_loop (x : BitVec 64) (w : Nat) (h1 : 1 ≤ w) (h64 : w ≤ 64) (d : Nat) : ∀ (k i : Nat) (y : BitVec 64), i + d = 64 → d < k →
    Upto y (fun t => if t < w then x.getLsbD t else x.getLsbD (w - 1)) i →
    ∃ z, mintmarkref01_Sign.l0 k (u x) w (u y) i = some (u z) ∧ Upto z (fun t => if t < w then x.getLsbD t else x.getLsbD (w - 1)) 64 := by
  induction d with
  | zero =>
    intro k i y h hk hy
    obtain ⟨k, rfl⟩ : ∃ m, k = m + 1 := ⟨k - 1, by omega⟩
    refine ⟨y, ?_, by obtain rfl : i = 64 := by omega
                      exact hy⟩
    simp only [mintmarkref01_Sign.l0]
    rw [if_neg (by omega)]
  | succ d ih =>
    intro k i y h hk hy
    obtain ⟨k, rfl⟩ : ∃ m, k = m + 1 := ⟨k - 1, by omega⟩
    have hi : i < 64 := by omega
    simp only [mintmarkref01_Sign.l0]
    rw [if_pos (by omega), wrap_small i (by omega), succ_nat i hi]
    have e1 : wrap64 ((w : Int) - 1) = ((w - 1 : Nat) : Int) := by unfold wrap64; omega
    rw [e1, wrap_small (w - 1) (by omega)]
    by_cases h2 : (i : Int) ≥ (w : Int)
    · have hs := upto_step hy hi x (w - 1) (by rw [if_neg (by omega)])
      obtain ⟨z, hz, hu⟩ := ih k (i + 1) _ (by omega) (by omega) hs
      exact ⟨z, by rw [if_pos h2, if_pos (by omega), if_pos (by omega), bit_term]; exact hz, hu⟩
    · have hs := upto_step hy hi x i (by rw [if_pos (by omega)])
      obtain ⟨z, hz, hu⟩ := ih k (i + 1) _ (by omega) (by omega) hs
      exact ⟨z, by rw [if_neg h2, if_pos (by omega), bit_term]; exact hz, hu⟩
theorem mintmarkref01_Sign.eq (x : BitVec 64) (w : Int) : mintmarkref01_Sign.f 66 (u x) w = some (u (signI x w)) := by
  unfold mintmarkref01_Sign.f signI
  have hj : mintmarkref01_Sign.j0 66 (u x) w true = some 0 := by simp only [mintmarkref01_Sign.j0]; rfl
  by_cases h1 : w < 1
  · rw [if_pos h1, if_neg (by omega), hj]; rfl
  · rw [if_neg h1]
    by_cases h2 : w > 64
    · rw [decide_eq_true h2, if_neg (by omega), hj]; rfl
    · rw [decide_eq_false h2, if_pos (by omega)]
      simp only [mintmarkref01_Sign.j0, Bool.false_eq_true, if_false]
      obtain ⟨w, rfl⟩ := Int.eq_ofNat_of_zero_le (show 0 ≤ w by omega)
      obtain ⟨z, hz, hu⟩ := sign_loop x w (by omega) (by omega) 64 65 0 0#64 (by omega) (by omega) (upto_zero _)
      have : z = Bits.sign x w := upto_eq hu fun t ht => by rw [sign_bit _ _ _ (by omega) (by omega) ht, decide_eq_true ht, Bool.true_and]
      rw [Int.toNat_natCast, ← this]; exact hz
end Go.Proofs.Ytpmpibcfmejbfaa.PAluDoes
