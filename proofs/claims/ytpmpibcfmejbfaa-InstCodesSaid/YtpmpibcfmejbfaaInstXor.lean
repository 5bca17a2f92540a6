/- Another register changes just its own bits of a word. No program in sight. -/
import Derived.Test.YtpmpibcfmejbfaaInstEncT
namespace Go.Proofs.Ytpmpibcfmejbfaa.Inst
open Go Go.RowKit Go.Proofs.Ytpmpibcfmejbfaa.Bits
set_option linter.unusedSimpArgs false
set_option linter.unusedVariables false
theorem put_xor (F G v : BitVec 64) (a n : Int) (h : 0 ≤ a ∧ 0 ≤ n ∧ a + n ≤ 64) : putI F a n v ^^^ putI G a n v = putI (F ^^^ G) a n 0#64 := by
  apply Bits.ext; intro i hi
  rw [BitVec.getLsbD_xor, putI_bit _ _ _ _ _ h hi, putI_bit _ _ _ _ _ h hi, putI_bit _ _ _ _ _ h hi]
  split
  · simp
  · rw [BitVec.getLsbD_xor]
theorem put_here (F x y : BitVec 64) (a n : Int) (h : 0 ≤ a ∧ 0 ≤ n ∧ a + n ≤ 64) : putI F a n x ^^^ putI F a n y = putI 0#64 a n (x ^^^ y) := by
  apply Bits.ext; intro i hi
  rw [BitVec.getLsbD_xor, putI_bit _ _ _ _ _ h hi, putI_bit _ _ _ _ _ h hi, putI_bit _ _ _ _ _ h hi]
  split
  · rw [BitVec.getLsbD_xor]
  · simp
theorem put_apart (x : BitVec 64) (a b : Int) (ha : 0 ≤ a ∧ a + 5 ≤ b) (hb : b + 5 ≤ 64) : putI (putI 0#64 a 5 x) b 5 0#64 = putI 0#64 a 5 x := by
  apply Bits.ext; intro i hi
  rw [putI_bit _ b _ _ _ (by omega) hi, putI_bit _ a _ _ _ (by omega) hi]
  split
  · rw [if_neg (by have : (5 : Int).toNat = 5 := rfl; omega)]; simp
  · rfl
theorem put_rd (x : BitVec 64) : putI 0#64 7 5 x &&& 4294967295#64 = (((x &&& 4294967295#64) <<< 7) &&& 4294967295#64) &&& 3968#64 := by
  have h32 : (4294967295#64) = mask 32 := by decide
  have h0 : (3968#64) = mask 5 <<< 7 := by decide
  have h7 : (7 : Int).toNat = 7 := rfl
  have h5 : (5 : Int).toNat = 5 := rfl
  apply Bits.ext; intro i hi
  rw [h32, h0]
  simp only [BitVec.getLsbD_and, BitVec.getLsbD_shiftLeft, putI_bit _ 7 5 _ _ (by omega) hi, mask_bit 32 _ (by omega), mask_bit 5 _ (by omega), h7, h5, hi, decide_true, Bool.true_and]
  by_cases h1 : i < 7
  · rw [if_neg (by omega)]; simp [h1]
  · by_cases h2 : i < 12
    · have e1 : i - 7 < 5 := by omega
      have e2 : i < 32 := by omega
      have e3 : i - 7 < 32 := by omega
      rw [if_pos (by omega)]; simp [h1, e1, e2, e3]
    · have e1 : ¬ i - 7 < 5 := by omega
      rw [if_neg (by omega)]; simp [h1, e1]
theorem put_rs (x : BitVec 64) (hx : ∀ i, 5 ≤ i → i < 64 → x.getLsbD i = false) : putI 0#64 15 5 x &&& 4294967295#64 = (((x &&& 4294967295#64) <<< 15) &&& 4294967295#64) := by
  have h32 : (4294967295#64) = mask 32 := by decide
  have h7 : (15 : Int).toNat = 15 := rfl
  have h5 : (5 : Int).toNat = 5 := rfl
  apply Bits.ext; intro i hi
  rw [h32]
  simp only [BitVec.getLsbD_and, BitVec.getLsbD_shiftLeft, putI_bit _ 15 5 _ _ (by omega) hi, mask_bit 32 _ (by omega), mask_bit 5 _ (by omega), h7, h5, hi, decide_true, Bool.true_and]
  by_cases h1 : i < 15
  · rw [if_neg (by omega)]; simp [h1]
  · by_cases h2 : i < 20
    · have e2 : i < 32 := by omega
      have e3 : i - 15 < 32 := by omega
      rw [if_pos (by omega)]; simp [h1, e2, e3]
    · rw [if_neg (by omega), hx (i - 15) (by omega) (by omega)]; simp
theorem u32_and (x : BitVec 64) : IntKind.u32.wrap (u x) = u (x &&& 4294967295#64) := wrap32_u x
theorem wrap_nat32 (x : BitVec 64) : IntKind.u32.wrap (x.toNat : Int) = u (x &&& 4294967295#64) := wrap32_u x
theorem ofInt_u32 (x : BitVec 64) : BitVec.ofInt 64 (u x) = x := by unfold u; simp
theorem wrap32_mod (n : Nat) : IntKind.u32.wrap (n : Int) = ((n % 4294967296 : Nat) : Int) := by
  simp [IntKind.wrap, IntKind.bits, IntKind.signed]
theorem of32 (z : BitVec 64) : BitVec.ofInt 32 (u z) = z.setWidth 32 := by
  apply BitVec.eq_of_toNat_eq
  unfold u
  rw [BitVec.toNat_ofInt, BitVec.toNat_setWidth]
  omega
theorem xor32 (x y : BitVec 64) : Go.bits .xor .u32 (u x) (u y) = u ((x ^^^ y) &&& 4294967295#64) := by
  show IntKind.u32.wrap ((BitVec.ofInt 32 (u x) ^^^ BitVec.ofInt 32 (u y)).toNat : Int) = _
  rw [of32, of32, ← BitVec.setWidth_xor, ← wrap32_u]
  show _ = IntKind.u32.wrap ((x ^^^ y).toNat : Int)
  rw [wrap32_mod, wrap32_mod, BitVec.toNat_setWidth]
  try omega
theorem and32 (x y : BitVec 64) : Go.bits .and .u32 (u x) (u y) = u ((x &&& y) &&& 4294967295#64) := by
  show IntKind.u32.wrap ((BitVec.ofInt 32 (u x) &&& BitVec.ofInt 32 (u y)).toNat : Int) = _
  rw [of32, of32, ← BitVec.setWidth_and, ← wrap32_u]
  show _ = IntKind.u32.wrap ((x &&& y).toNat : Int)
  rw [wrap32_mod, wrap32_mod, BitVec.toNat_setWidth]
  try omega
theorem xor64 (x y : BitVec 64) : Go.bits .xor .i64 (s x) (s y) = s (x ^^^ y) := by
  show IntKind.i64.wrap ((BitVec.ofInt 64 (s x) ^^^ BitVec.ofInt 64 (s y)).toNat : Int) = _
  rw [ofInt_s, ofInt_s, wrapi_nat]
theorem wrap32_s (x : BitVec 64) : IntKind.u32.wrap (s x) = u (x &&& 4294967295#64) := by
  rw [← wrap32_u]
  have h : s x % 4294967296 = u x % 4294967296 := by
    unfold s u
    have := BitVec.toInt_eq_toNat_bmod x
    rw [this, Int.bmod_def]
    split <;> omega
  simp [IntKind.wrap, IntKind.bits, IntKind.signed]
  try exact h
theorem wrap32_shl (x : BitVec 64) (n : Nat) (hn : n < 32) : IntKind.u32.wrap (u x * 2 ^ n) = u ((x <<< n) &&& 4294967295#64) := by
  rw [← wrap32_u]
  unfold u
  rw [BitVec.toNat_shiftLeft, Nat.shiftLeft_eq]
  simp [IntKind.wrap, IntKind.bits, IntKind.signed]
theorem and_and (x y : BitVec 64) : ((x &&& 4294967295#64) &&& y) &&& 4294967295#64 = (x &&& 4294967295#64) &&& y := by
  apply Bits.ext; intro i hi
  simp only [BitVec.getLsbD_and]
  cases x.getLsbD i <;> cases (4294967295#64).getLsbD i <;> cases y.getLsbD i <;> rfl
theorem xor_m (x y : BitVec 64) : ((x &&& 4294967295#64) ^^^ (y &&& 4294967295#64)) &&& 4294967295#64 = (x ^^^ y) &&& 4294967295#64 := by
  apply Bits.ext; intro i hi
  simp only [BitVec.getLsbD_and, BitVec.getLsbD_xor]
  cases x.getLsbD i <;> cases (4294967295#64).getLsbD i <;> cases y.getLsbD i <;> rfl
theorem rd_val (a b : BitVec 64) : Go.bits .and .u32 (IntKind.u32.wrap (IntKind.u32.wrap (Go.bits .xor .i64 (s a) (s b)) * 2 ^ 7)) 3968 = u (putI 0#64 7 5 (a ^^^ b) &&& 4294967295#64) := by
  rw [xor64, wrap32_s, wrap32_shl _ 7 (by omega), show (3968 : Int) = u 3968#64 from rfl, and32, and_and, put_rd]
theorem rs_val (a b : BitVec 64) (ha : fitsI a 5 false = true) (hb : fitsI b 5 false = true) : IntKind.u32.wrap (IntKind.u32.wrap (Go.bits .xor .i64 (s a) (s b)) * 2 ^ 15) = u (putI 0#64 15 5 (a ^^^ b) &&& 4294967295#64) := by
  rw [xor64, wrap32_s, wrap32_shl _ 15 (by omega), put_rs]
  intro i h1 h2
  rw [BitVec.getLsbD_xor, (fits_no a 5 (by omega) (by omega)).1 ha i h1 h2, (fits_no b 5 (by omega) (by omega)).1 hb i h1 h2]
  rfl
theorem word_rd (k : Nat) (hk : k < 69) (h83 : sh k ≠ 83) (h66 : sh k ≠ 66) (h78 : sh k ≠ 78) (rd jr rs1 rs2 imm : BitVec 64) : wordK k rd rs1 rs2 imm ^^^ wordK k jr rs1 rs2 imm = putI 0#64 7 5 (rd ^^^ jr) := by
  rcases shapes k hk with hs | hs | hs | hs | hs | hs | hs | hs | hs | hs
  · rw [wordK_R k hs, wordK_R k hs]; unfold word_R; rw [put_xor _ _ _ 20 5 (by omega), put_xor _ _ _ 15 5 (by omega), put_here _ _ _ 7 5 (by omega), put_apart _ 7 15 (by omega) (by omega), put_apart _ 7 20 (by omega) (by omega)]
  · rw [wordK_G k hs, wordK_G k hs]; unfold word_G; rw [put_xor _ _ _ 15 5 (by omega), put_here _ _ _ 7 5 (by omega), put_apart _ 7 15 (by omega) (by omega)]
  · rw [wordK_I k hs, wordK_I k hs]; unfold word_I; rw [put_xor _ _ _ 15 5 (by omega), put_here _ _ _ 7 5 (by omega), put_apart _ 7 15 (by omega) (by omega)]
  · rw [wordK_C k hs, wordK_C k hs]; unfold word_C; rw [put_xor _ _ _ 15 5 (by omega), put_here _ _ _ 7 5 (by omega), put_apart _ 7 15 (by omega) (by omega)]
  · rw [wordK_H k hs, wordK_H k hs]; unfold word_H; rw [put_xor _ _ _ 15 5 (by omega), put_here _ _ _ 7 5 (by omega), put_apart _ 7 15 (by omega) (by omega)]
  · exact absurd hs h83
  · exact absurd hs h66
  · rw [wordK_U k hs, wordK_U k hs]; unfold word_U; rw [put_here _ _ _ 7 5 (by omega)]
  · rw [wordK_J k hs, wordK_J k hs]; unfold word_J; rw [put_here _ _ _ 7 5 (by omega)]
  · exact absurd hs h78
theorem word_rs (k : Nat) (hk : k < 69) (h85 : sh k ≠ 85) (h74 : sh k ≠ 74) (h78 : sh k ≠ 78) (rd rs1 jr rs2 imm : BitVec 64) : wordK k rd rs1 rs2 imm ^^^ wordK k rd jr rs2 imm = putI 0#64 15 5 (rs1 ^^^ jr) := by
  rcases shapes k hk with hs | hs | hs | hs | hs | hs | hs | hs | hs | hs
  · rw [wordK_R k hs, wordK_R k hs]; unfold word_R; rw [put_xor _ _ _ 20 5 (by omega), put_here _ _ _ 15 5 (by omega), put_apart _ 15 20 (by omega) (by omega)]
  · rw [wordK_G k hs, wordK_G k hs]; unfold word_G; rw [put_here _ _ _ 15 5 (by omega)]
  · rw [wordK_I k hs, wordK_I k hs]; unfold word_I; rw [put_here _ _ _ 15 5 (by omega)]
  · rw [wordK_C k hs, wordK_C k hs]; unfold word_C; rw [put_here _ _ _ 15 5 (by omega)]
  · rw [wordK_H k hs, wordK_H k hs]; unfold word_H; rw [put_here _ _ _ 15 5 (by omega)]
  · rw [wordK_S k hs, wordK_S k hs]; unfold word_S; rw [put_xor _ _ _ 20 5 (by omega), put_here _ _ _ 15 5 (by omega), put_apart _ 15 20 (by omega) (by omega)]
  · rw [wordK_B k hs, wordK_B k hs]; unfold word_B; rw [put_xor _ _ _ 20 5 (by omega), put_here _ _ _ 15 5 (by omega), put_apart _ 15 20 (by omega) (by omega)]
  · exact absurd hs h85
  · exact absurd hs h74
  · exact absurd hs h78
theorem fit_rs (k : Nat) (hk : k < 69) (h85 : sh k ≠ 85) (h74 : sh k ≠ 74) (h78 : sh k ≠ 78) (rd rs1 rs2 imm : BitVec 64) (h : okB k rd rs1 rs2 imm = true) : fitsI rs1 5 false = true := by
  rcases shapes k hk with hs | hs | hs | hs | hs | hs | hs | hs | hs | hs
  · rw [okB_R k hs] at h; simp only [Bool.and_eq_true] at h; exact h.1.2
  · rw [okB_G k hs] at h; simp only [Bool.and_eq_true] at h; exact h.2
  · rw [okB_I k hs] at h; simp only [Bool.and_eq_true] at h; exact h.2
  · rw [okB_C k hs] at h; simp only [Bool.and_eq_true] at h; exact h.2
  · rw [okB_H k hs] at h; simp only [Bool.and_eq_true] at h; exact h.2
  · rw [okB_S k hs] at h; simp only [Bool.and_eq_true] at h; exact h.1.2
  · rw [okB_B k hs] at h; simp only [Bool.and_eq_true] at h; exact h.1.2
  · exact absurd hs h85
  · exact absurd hs h74
  · exact absurd hs h78
theorem rd_same_S (k : Nat) (hs : sh k = 83) (rd rs1 rs2 imm jr : BitVec 64) (h1 : okB k rd rs1 rs2 imm = true) (h2 : okB k jr rs1 rs2 imm = true) : (encN k rd rs1 rs2 imm != encN k jr rs1 rs2 imm) = false := by
  rw [encN_ok h1, encN_ok h2, wordK_S k hs, wordK_S k hs]; exact bne_self_eq_false _
theorem rd_same_B (k : Nat) (hs : sh k = 66) (rd rs1 rs2 imm jr : BitVec 64) (h1 : okB k rd rs1 rs2 imm = true) (h2 : okB k jr rs1 rs2 imm = true) : (encN k rd rs1 rs2 imm != encN k jr rs1 rs2 imm) = false := by
  rw [encN_ok h1, encN_ok h2, wordK_B k hs, wordK_B k hs]; exact bne_self_eq_false _
theorem rd_same_N (k : Nat) (hs : sh k = 78) (rd rs1 rs2 imm jr : BitVec 64) (h1 : okB k rd rs1 rs2 imm = true) (h2 : okB k jr rs1 rs2 imm = true) : (encN k rd rs1 rs2 imm != encN k jr rs1 rs2 imm) = false := by
  rw [encN_ok h1, encN_ok h2, wordK_N k hs, wordK_N k hs]; exact bne_self_eq_false _
theorem rs_same_U (k : Nat) (hs : sh k = 85) (rd rs1 rs2 imm jr : BitVec 64) (h1 : okB k rd rs1 rs2 imm = true) (h2 : okB k rd jr rs2 imm = true) : (encN k rd rs1 rs2 imm != encN k rd jr rs2 imm) = false := by
  rw [encN_ok h1, encN_ok h2, wordK_U k hs, wordK_U k hs]; exact bne_self_eq_false _
theorem rs_same_J (k : Nat) (hs : sh k = 74) (rd rs1 rs2 imm jr : BitVec 64) (h1 : okB k rd rs1 rs2 imm = true) (h2 : okB k rd jr rs2 imm = true) : (encN k rd rs1 rs2 imm != encN k rd jr rs2 imm) = false := by
  rw [encN_ok h1, encN_ok h2, wordK_J k hs, wordK_J k hs]; exact bne_self_eq_false _
theorem rs_same_N (k : Nat) (hs : sh k = 78) (rd rs1 rs2 imm jr : BitVec 64) (h1 : okB k rd rs1 rs2 imm = true) (h2 : okB k rd jr rs2 imm = true) : (encN k rd rs1 rs2 imm != encN k rd jr rs2 imm) = false := by
  rw [encN_ok h1, encN_ok h2, wordK_N k hs, wordK_N k hs]; exact bne_self_eq_false _
theorem rd_diff (k : Nat) (hk : k < 69) (h83 : sh k ≠ 83) (h66 : sh k ≠ 66) (h78 : sh k ≠ 78) (rd rs1 rs2 imm jr : BitVec 64) (h1 : okB k rd rs1 rs2 imm = true) (h2 : okB k jr rs1 rs2 imm = true) :
    (Go.bits .xor .u32 (encN k rd rs1 rs2 imm) (encN k jr rs1 rs2 imm) != Go.bits .and .u32 (IntKind.u32.wrap (IntKind.u32.wrap (Go.bits .xor .i64 (s rd) (s jr)) * 2 ^ 7)) 3968) = false := by
  rw [encN_ok h1, encN_ok h2, rd_val, xor32, xor_m, word_rd k hk h83 h66 h78]; exact bne_self_eq_false _
theorem rs_diff (k : Nat) (hk : k < 69) (h85 : sh k ≠ 85) (h74 : sh k ≠ 74) (h78 : sh k ≠ 78) (rd rs1 rs2 imm jr : BitVec 64) (h1 : okB k rd rs1 rs2 imm = true) (h2 : okB k rd jr rs2 imm = true) :
    (Go.bits .xor .u32 (encN k rd rs1 rs2 imm) (encN k rd jr rs2 imm) == IntKind.u32.wrap (IntKind.u32.wrap (Go.bits .xor .i64 (s rs1) (s jr)) * 2 ^ 15)) = true := by
  rw [encN_ok h1, encN_ok h2, rs_val _ _ (fit_rs k hk h85 h74 h78 _ _ _ _ h1) (fit_rs k hk h85 h74 h78 _ _ _ _ h2), xor32, xor_m, word_rs k hk h85 h74 h78]; exact beq_self_eq_true _
theorem shape6 (k : Nat) (hk : k < 69) : sh k = 83 ∨ sh k = 66 ∨ sh k = 78 ∨ sh k = 85 ∨ sh k = 74 ∨ (sh k ≠ 83 ∧ sh k ≠ 66 ∧ sh k ≠ 78 ∧ sh k ≠ 85 ∧ sh k ≠ 74) := by
  by_cases h1 : sh k = 83 <;> by_cases h2 : sh k = 66 <;> by_cases h3 : sh k = 78 <;> by_cases h4 : sh k = 85 <;> by_cases h5 : sh k = 74 <;> simp [h1, h2, h3, h4, h5]
end Go.Proofs.Ytpmpibcfmejbfaa.Inst
