/- A word and its instruction: each is the other's. No program in sight. -/
import Derived.Test.YtpmpibcfmejbfaaInstBits
namespace Go.Proofs.Ytpmpibcfmejbfaa.Inst
open Go.RowKit Go.Proofs.Ytpmpibcfmejbfaa.Bits
set_option linter.unusedSimpArgs false
set_option linter.unusedVariables false
theorem signI_bit (x : BitVec 64) (w : Int) (i : Nat) (h : 1 ≤ w ∧ w ≤ 64) (hi : i < 64) : (signI x w).getLsbD i = if i < w.toNat then x.getLsbD i else x.getLsbD (w.toNat - 1) := by
  unfold signI
  rw [if_pos h]
  exact sign_bit x w.toNat i (by omega) (by omega) hi
theorem fits_no (x : BitVec 64) (w : Nat) (h1 : 1 ≤ w) (h2 : w ≤ 63) : fitsI x (w : Int) false = true ↔ ∀ i, w ≤ i → i < 64 → x.getLsbD i = false := by
  unfold fitsI
  rw [if_pos (by omega), if_neg (by decide)]
  simp only [Bool.and_eq_true, decide_eq_true_eq, Int.toNat_natCast]
  constructor
  · intro ⟨_, h⟩ i hw hi
    have := congrArg (fun v => BitVec.getLsbD v i) h
    simp only [BitVec.getLsbD_and, BitVec.getLsbD_not, mask_bit w i (by omega), hi, decide_true, Bool.true_and, BitVec.getLsbD_zero] at this
    simpa [show ¬ i < w by omega, -BitVec.getLsbD_eq_getElem] using this
  · intro h
    refine ⟨?_, Bits.ext fun i hi => ?_⟩
    · have h63 := h 63 (by omega) (by omega)
      unfold s
      rw [BitVec.toInt_eq_msb_cond, BitVec.msb_eq_getLsbD_last]
      rw [show 64 - 1 = 63 from rfl, h63]
      simp
    · simp only [BitVec.getLsbD_and, BitVec.getLsbD_not, mask_bit w i (by omega), hi, decide_true, Bool.true_and, BitVec.getLsbD_zero]
      by_cases hw : i < w
      · simp [hw]
      · rw [h i (by omega) hi]; rfl
theorem fits_yes (x : BitVec 64) (w : Nat) (h1 : 1 ≤ w) (h2 : w ≤ 63) : fitsI x (w : Int) true = true ↔ ∀ i, w ≤ i → i < 64 → x.getLsbD i = x.getLsbD (w - 1) := by
  unfold fitsI
  rw [if_pos (by omega), if_pos rfl, decide_eq_true_eq, Int.toNat_natCast]
  constructor
  · intro h i hw hi
    have := congrArg (fun v => BitVec.getLsbD v i) h
    simp only [sign_bit x w i (by omega) (by omega) hi] at this
    rw [if_neg (by omega)] at this
    exact this.symm
  · intro h
    refine Bits.ext fun i hi => ?_
    rw [sign_bit x w i (by omega) (by omega) hi]
    by_cases hw : i < w
    · rw [if_pos hw]
    · rw [if_neg hw]; exact (h i (by omega) hi).symm
theorem low_zero (y : BitVec 64) (z : Nat) (hz : z ≤ 63) : (u (y &&& maskI (z : Int)) == 0) = true ↔ ∀ i, i < z → y.getLsbD i = false := by
  have e : (u (y &&& maskI (z : Int)) == 0) = true ↔ y &&& maskI (z : Int) = 0#64 := by
    rw [beq_iff_eq]
    constructor
    · intro h; exact u_inj (by rw [h]; rfl)
    · intro h; rw [h]; rfl
  rw [e]
  have hm : min ((z : Int).toNat) 64 = z := by omega
  unfold maskI
  rw [hm]
  constructor
  · intro h i hi
    have := congrArg (fun v => BitVec.getLsbD v i) h
    simp only [BitVec.getLsbD_and, mask_bit z i (by omega), BitVec.getLsbD_zero] at this
    simpa [hi, -BitVec.getLsbD_eq_getElem] using this
  · intro h
    refine Bits.ext fun i hi => ?_
    rw [BitVec.getLsbD_and, mask_bit z i (by omega), BitVec.getLsbD_zero]
    by_cases hw : i < z
    · rw [h i hw]; rfl
    · simp [hw]
def rdK (k : Nat) (x : BitVec 64) : BitVec 64 := if sh k = 82 then getI x 7 5 else if sh k = 71 then getI x 7 5 else if sh k = 73 then getI x 7 5 else if sh k = 67 then getI x 7 5 else if sh k = 72 then getI x 7 5 else if sh k = 83 then 0#64 else if sh k = 66 then 0#64 else if sh k = 85 then getI x 7 5 else if sh k = 74 then getI x 7 5 else if sh k = 78 then 0#64 else 0#64
def rdH (k : Nat) (y : BitVec 64) : BitVec 64 := if sh k = 82 then y else if sh k = 71 then y else if sh k = 73 then y else if sh k = 67 then y else if sh k = 72 then y else if sh k = 83 then 0#64 else if sh k = 66 then 0#64 else if sh k = 85 then y else if sh k = 74 then y else if sh k = 78 then 0#64 else 0#64
def rs1K (k : Nat) (x : BitVec 64) : BitVec 64 := if sh k = 82 then getI x 15 5 else if sh k = 71 then getI x 15 5 else if sh k = 73 then getI x 15 5 else if sh k = 67 then getI x 15 5 else if sh k = 72 then getI x 15 5 else if sh k = 83 then getI x 15 5 else if sh k = 66 then getI x 15 5 else if sh k = 85 then 0#64 else if sh k = 74 then 0#64 else if sh k = 78 then 0#64 else 0#64
def rs1H (k : Nat) (y : BitVec 64) : BitVec 64 := if sh k = 82 then y else if sh k = 71 then y else if sh k = 73 then y else if sh k = 67 then y else if sh k = 72 then y else if sh k = 83 then y else if sh k = 66 then y else if sh k = 85 then 0#64 else if sh k = 74 then 0#64 else if sh k = 78 then 0#64 else 0#64
def rs2K (k : Nat) (x : BitVec 64) : BitVec 64 := if sh k = 82 then getI x 20 5 else if sh k = 71 then 0#64 else if sh k = 73 then 0#64 else if sh k = 67 then 0#64 else if sh k = 72 then 0#64 else if sh k = 83 then getI x 20 5 else if sh k = 66 then getI x 20 5 else if sh k = 85 then 0#64 else if sh k = 74 then 0#64 else if sh k = 78 then 0#64 else 0#64
def rs2H (k : Nat) (y : BitVec 64) : BitVec 64 := if sh k = 82 then y else if sh k = 71 then 0#64 else if sh k = 73 then 0#64 else if sh k = 67 then 0#64 else if sh k = 72 then 0#64 else if sh k = 83 then y else if sh k = 66 then y else if sh k = 85 then 0#64 else if sh k = 74 then 0#64 else if sh k = 78 then 0#64 else 0#64
def immK (k : Nat) (x : BitVec 64) : BitVec 64 := if sh k = 82 then 0#64 else if sh k = 71 then 0#64 else if sh k = 73 then signI (putI 0#64 0 12 (getI x 20 12)) 12 else if sh k = 67 then putI 0#64 0 12 (getI x 20 12) else if sh k = 72 then putI 0#64 0 6 (getI x 20 6) else if sh k = 83 then signI (putI (putI 0#64 0 5 (getI x 7 5)) 5 7 (getI x 25 7)) 12 else if sh k = 66 then signI (putI (putI (putI (putI 0#64 1 4 (getI x 8 4)) 5 6 (getI x 25 6)) 11 1 (getI x 7 1)) 12 1 (getI x 31 1)) 13 else if sh k = 85 then signI (putI 0#64 12 20 (getI x 12 20)) 32 else if sh k = 74 then signI (putI (putI (putI (putI 0#64 12 8 (getI x 12 8)) 11 1 (getI x 20 1)) 1 10 (getI x 21 10)) 20 1 (getI x 31 1)) 21 else if sh k = 78 then 0#64 else 0#64
def immH (k : Nat) (y : BitVec 64) : BitVec 64 := if sh k = 82 then 0#64 else if sh k = 71 then 0#64 else if sh k = 73 then y else if sh k = 67 then y else if sh k = 72 then y else if sh k = 83 then y else if sh k = 66 then y else if sh k = 85 then y else if sh k = 74 then y else if sh k = 78 then 0#64 else 0#64
theorem decC_eq (k : Nat) (hk : k < 69) (x : BitVec 64) : decC k x = #[.int .i64 ((k + 1 : Nat) : Int), .int .i64 (s (rdK k x)), .int .i64 (s (rs1K k x)), .int .i64 (s (rs2K k x)), .int .i64 (s (immK k x))] := by
  unfold decC rdK rs1K rs2K immK
  rcases shapes k hk with hs | hs | hs | hs | hs | hs | hs | hs | hs | hs <;> simp only [hs] <;> rfl
set_option maxHeartbeats 8000000 in
theorem back_R (k : Nat) (rd rs1 rs2 imm : BitVec 64) (f_rd : fitsI rd 5 false = true) (f_rs1 : fitsI rs1 5 false = true) (f_rs2 : fitsI rs2 5 false = true) : (getI (word_R k rd rs1 rs2 imm &&& 4294967295#64) 7 5) = rd ∧ (getI (word_R k rd rs1 rs2 imm &&& 4294967295#64) 15 5) = rs1 ∧ (getI (word_R k rd rs1 rs2 imm &&& 4294967295#64) 20 5) = rs2 := by
  have f_rd := (fits_no rd 5 (by omega) (by omega)).1 f_rd
  have f_rs1 := (fits_no rs1 5 (by omega) (by omega)).1 f_rs1
  have f_rs2 := (fits_no rs2 5 (by omega) (by omega)).1 f_rs2
  unfold word_R
  generalize cd k = c
  generalize ff k = f
  generalize ot k = o
  refine ⟨?_, ?_, ?_⟩
  · apply Bits.ext; intro i hi
    rcases lt64 i hi with rfl | rfl | rfl | rfl | rfl | rfl | rfl | rfl | rfl | rfl | rfl | rfl | rfl | rfl | rfl | rfl | rfl | rfl | rfl | rfl | rfl | rfl | rfl | rfl | rfl | rfl | rfl | rfl | rfl | rfl | rfl | rfl | rfl | rfl | rfl | rfl | rfl | rfl | rfl | rfl | rfl | rfl | rfl | rfl | rfl | rfl | rfl | rfl | rfl | rfl | rfl | rfl | rfl | rfl | rfl | rfl | rfl | rfl | rfl | rfl | rfl | rfl | rfl | rfl <;> simp (disch := omega) [-BitVec.getLsbD_eq_getElem, BitVec.getLsbD_and, putI_bit, getI_bit, signI_bit, f_rd, f_rs1, f_rs2]
  · apply Bits.ext; intro i hi
    rcases lt64 i hi with rfl | rfl | rfl | rfl | rfl | rfl | rfl | rfl | rfl | rfl | rfl | rfl | rfl | rfl | rfl | rfl | rfl | rfl | rfl | rfl | rfl | rfl | rfl | rfl | rfl | rfl | rfl | rfl | rfl | rfl | rfl | rfl | rfl | rfl | rfl | rfl | rfl | rfl | rfl | rfl | rfl | rfl | rfl | rfl | rfl | rfl | rfl | rfl | rfl | rfl | rfl | rfl | rfl | rfl | rfl | rfl | rfl | rfl | rfl | rfl | rfl | rfl | rfl | rfl <;> simp (disch := omega) [-BitVec.getLsbD_eq_getElem, BitVec.getLsbD_and, putI_bit, getI_bit, signI_bit, f_rd, f_rs1, f_rs2]
  · apply Bits.ext; intro i hi
    rcases lt64 i hi with rfl | rfl | rfl | rfl | rfl | rfl | rfl | rfl | rfl | rfl | rfl | rfl | rfl | rfl | rfl | rfl | rfl | rfl | rfl | rfl | rfl | rfl | rfl | rfl | rfl | rfl | rfl | rfl | rfl | rfl | rfl | rfl | rfl | rfl | rfl | rfl | rfl | rfl | rfl | rfl | rfl | rfl | rfl | rfl | rfl | rfl | rfl | rfl | rfl | rfl | rfl | rfl | rfl | rfl | rfl | rfl | rfl | rfl | rfl | rfl | rfl | rfl | rfl | rfl <;> simp (disch := omega) [-BitVec.getLsbD_eq_getElem, BitVec.getLsbD_and, putI_bit, getI_bit, signI_bit, f_rd, f_rs1, f_rs2]
set_option maxHeartbeats 8000000 in
theorem back_G (k : Nat) (rd rs1 rs2 imm : BitVec 64) (f_rd : fitsI rd 5 false = true) (f_rs1 : fitsI rs1 5 false = true) : (getI (word_G k rd rs1 rs2 imm &&& 4294967295#64) 7 5) = rd ∧ (getI (word_G k rd rs1 rs2 imm &&& 4294967295#64) 15 5) = rs1 := by
  have f_rd := (fits_no rd 5 (by omega) (by omega)).1 f_rd
  have f_rs1 := (fits_no rs1 5 (by omega) (by omega)).1 f_rs1
  unfold word_G
  generalize cd k = c
  generalize ff k = f
  generalize ot k = o
  refine ⟨?_, ?_⟩
  · apply Bits.ext; intro i hi
    rcases lt64 i hi with rfl | rfl | rfl | rfl | rfl | rfl | rfl | rfl | rfl | rfl | rfl | rfl | rfl | rfl | rfl | rfl | rfl | rfl | rfl | rfl | rfl | rfl | rfl | rfl | rfl | rfl | rfl | rfl | rfl | rfl | rfl | rfl | rfl | rfl | rfl | rfl | rfl | rfl | rfl | rfl | rfl | rfl | rfl | rfl | rfl | rfl | rfl | rfl | rfl | rfl | rfl | rfl | rfl | rfl | rfl | rfl | rfl | rfl | rfl | rfl | rfl | rfl | rfl | rfl <;> simp (disch := omega) [-BitVec.getLsbD_eq_getElem, BitVec.getLsbD_and, putI_bit, getI_bit, signI_bit, f_rd, f_rs1]
  · apply Bits.ext; intro i hi
    rcases lt64 i hi with rfl | rfl | rfl | rfl | rfl | rfl | rfl | rfl | rfl | rfl | rfl | rfl | rfl | rfl | rfl | rfl | rfl | rfl | rfl | rfl | rfl | rfl | rfl | rfl | rfl | rfl | rfl | rfl | rfl | rfl | rfl | rfl | rfl | rfl | rfl | rfl | rfl | rfl | rfl | rfl | rfl | rfl | rfl | rfl | rfl | rfl | rfl | rfl | rfl | rfl | rfl | rfl | rfl | rfl | rfl | rfl | rfl | rfl | rfl | rfl | rfl | rfl | rfl | rfl <;> simp (disch := omega) [-BitVec.getLsbD_eq_getElem, BitVec.getLsbD_and, putI_bit, getI_bit, signI_bit, f_rd, f_rs1]
set_option maxHeartbeats 8000000 in
theorem back_I (k : Nat) (rd rs1 rs2 imm : BitVec 64) (f_rd : fitsI rd 5 false = true) (f_rs1 : fitsI rs1 5 false = true) (f_imm : fitB_I imm = true) : (getI (word_I k rd rs1 rs2 imm &&& 4294967295#64) 7 5) = rd ∧ (getI (word_I k rd rs1 rs2 imm &&& 4294967295#64) 15 5) = rs1 ∧ (signI (putI 0#64 0 12 (getI (word_I k rd rs1 rs2 imm &&& 4294967295#64) 20 12)) 12) = imm := by
  have f_rd := (fits_no rd 5 (by omega) (by omega)).1 f_rd
  have f_rs1 := (fits_no rs1 5 (by omega) (by omega)).1 f_rs1
  unfold fitB_I at f_imm
  rw [Bool.and_eq_true] at f_imm
  have f_hi := (fits_yes imm 12 (by omega) (by omega)).1 f_imm.1
  have f_lo := (low_zero imm 0 (by omega)).1 f_imm.2
  unfold word_I
  generalize cd k = c
  generalize ff k = f
  generalize ot k = o
  refine ⟨?_, ?_, ?_⟩
  · apply Bits.ext; intro i hi
    rcases lt64 i hi with rfl | rfl | rfl | rfl | rfl | rfl | rfl | rfl | rfl | rfl | rfl | rfl | rfl | rfl | rfl | rfl | rfl | rfl | rfl | rfl | rfl | rfl | rfl | rfl | rfl | rfl | rfl | rfl | rfl | rfl | rfl | rfl | rfl | rfl | rfl | rfl | rfl | rfl | rfl | rfl | rfl | rfl | rfl | rfl | rfl | rfl | rfl | rfl | rfl | rfl | rfl | rfl | rfl | rfl | rfl | rfl | rfl | rfl | rfl | rfl | rfl | rfl | rfl | rfl <;> simp (disch := omega) [-BitVec.getLsbD_eq_getElem, BitVec.getLsbD_and, putI_bit, getI_bit, signI_bit, f_rd, f_rs1, f_hi, f_lo]
  · apply Bits.ext; intro i hi
    rcases lt64 i hi with rfl | rfl | rfl | rfl | rfl | rfl | rfl | rfl | rfl | rfl | rfl | rfl | rfl | rfl | rfl | rfl | rfl | rfl | rfl | rfl | rfl | rfl | rfl | rfl | rfl | rfl | rfl | rfl | rfl | rfl | rfl | rfl | rfl | rfl | rfl | rfl | rfl | rfl | rfl | rfl | rfl | rfl | rfl | rfl | rfl | rfl | rfl | rfl | rfl | rfl | rfl | rfl | rfl | rfl | rfl | rfl | rfl | rfl | rfl | rfl | rfl | rfl | rfl | rfl <;> simp (disch := omega) [-BitVec.getLsbD_eq_getElem, BitVec.getLsbD_and, putI_bit, getI_bit, signI_bit, f_rd, f_rs1, f_hi, f_lo]
  · apply Bits.ext; intro i hi
    rcases lt64 i hi with rfl | rfl | rfl | rfl | rfl | rfl | rfl | rfl | rfl | rfl | rfl | rfl | rfl | rfl | rfl | rfl | rfl | rfl | rfl | rfl | rfl | rfl | rfl | rfl | rfl | rfl | rfl | rfl | rfl | rfl | rfl | rfl | rfl | rfl | rfl | rfl | rfl | rfl | rfl | rfl | rfl | rfl | rfl | rfl | rfl | rfl | rfl | rfl | rfl | rfl | rfl | rfl | rfl | rfl | rfl | rfl | rfl | rfl | rfl | rfl | rfl | rfl | rfl | rfl <;> simp (disch := omega) [-BitVec.getLsbD_eq_getElem, BitVec.getLsbD_and, putI_bit, getI_bit, signI_bit, f_rd, f_rs1, f_hi, f_lo]
set_option maxHeartbeats 8000000 in
theorem back_C (k : Nat) (rd rs1 rs2 imm : BitVec 64) (f_rd : fitsI rd 5 false = true) (f_rs1 : fitsI rs1 5 false = true) (f_imm : fitB_C imm = true) : (getI (word_C k rd rs1 rs2 imm &&& 4294967295#64) 7 5) = rd ∧ (getI (word_C k rd rs1 rs2 imm &&& 4294967295#64) 15 5) = rs1 ∧ (putI 0#64 0 12 (getI (word_C k rd rs1 rs2 imm &&& 4294967295#64) 20 12)) = imm := by
  have f_rd := (fits_no rd 5 (by omega) (by omega)).1 f_rd
  have f_rs1 := (fits_no rs1 5 (by omega) (by omega)).1 f_rs1
  unfold fitB_C at f_imm
  rw [Bool.and_eq_true] at f_imm
  have f_hi := (fits_no imm 12 (by omega) (by omega)).1 f_imm.1
  have f_lo := (low_zero imm 0 (by omega)).1 f_imm.2
  unfold word_C
  generalize cd k = c
  generalize ff k = f
  generalize ot k = o
  refine ⟨?_, ?_, ?_⟩
  · apply Bits.ext; intro i hi
    rcases lt64 i hi with rfl | rfl | rfl | rfl | rfl | rfl | rfl | rfl | rfl | rfl | rfl | rfl | rfl | rfl | rfl | rfl | rfl | rfl | rfl | rfl | rfl | rfl | rfl | rfl | rfl | rfl | rfl | rfl | rfl | rfl | rfl | rfl | rfl | rfl | rfl | rfl | rfl | rfl | rfl | rfl | rfl | rfl | rfl | rfl | rfl | rfl | rfl | rfl | rfl | rfl | rfl | rfl | rfl | rfl | rfl | rfl | rfl | rfl | rfl | rfl | rfl | rfl | rfl | rfl <;> simp (disch := omega) [-BitVec.getLsbD_eq_getElem, BitVec.getLsbD_and, putI_bit, getI_bit, signI_bit, f_rd, f_rs1, f_hi, f_lo]
  · apply Bits.ext; intro i hi
    rcases lt64 i hi with rfl | rfl | rfl | rfl | rfl | rfl | rfl | rfl | rfl | rfl | rfl | rfl | rfl | rfl | rfl | rfl | rfl | rfl | rfl | rfl | rfl | rfl | rfl | rfl | rfl | rfl | rfl | rfl | rfl | rfl | rfl | rfl | rfl | rfl | rfl | rfl | rfl | rfl | rfl | rfl | rfl | rfl | rfl | rfl | rfl | rfl | rfl | rfl | rfl | rfl | rfl | rfl | rfl | rfl | rfl | rfl | rfl | rfl | rfl | rfl | rfl | rfl | rfl | rfl <;> simp (disch := omega) [-BitVec.getLsbD_eq_getElem, BitVec.getLsbD_and, putI_bit, getI_bit, signI_bit, f_rd, f_rs1, f_hi, f_lo]
  · apply Bits.ext; intro i hi
    rcases lt64 i hi with rfl | rfl | rfl | rfl | rfl | rfl | rfl | rfl | rfl | rfl | rfl | rfl | rfl | rfl | rfl | rfl | rfl | rfl | rfl | rfl | rfl | rfl | rfl | rfl | rfl | rfl | rfl | rfl | rfl | rfl | rfl | rfl | rfl | rfl | rfl | rfl | rfl | rfl | rfl | rfl | rfl | rfl | rfl | rfl | rfl | rfl | rfl | rfl | rfl | rfl | rfl | rfl | rfl | rfl | rfl | rfl | rfl | rfl | rfl | rfl | rfl | rfl | rfl | rfl <;> simp (disch := omega) [-BitVec.getLsbD_eq_getElem, BitVec.getLsbD_and, putI_bit, getI_bit, signI_bit, f_rd, f_rs1, f_hi, f_lo]
set_option maxHeartbeats 8000000 in
theorem back_H (k : Nat) (rd rs1 rs2 imm : BitVec 64) (f_rd : fitsI rd 5 false = true) (f_rs1 : fitsI rs1 5 false = true) (f_imm : fitB_H imm = true) : (getI (word_H k rd rs1 rs2 imm &&& 4294967295#64) 7 5) = rd ∧ (getI (word_H k rd rs1 rs2 imm &&& 4294967295#64) 15 5) = rs1 ∧ (putI 0#64 0 6 (getI (word_H k rd rs1 rs2 imm &&& 4294967295#64) 20 6)) = imm := by
  have f_rd := (fits_no rd 5 (by omega) (by omega)).1 f_rd
  have f_rs1 := (fits_no rs1 5 (by omega) (by omega)).1 f_rs1
  unfold fitB_H at f_imm
  rw [Bool.and_eq_true] at f_imm
  have f_hi := (fits_no imm 6 (by omega) (by omega)).1 f_imm.1
  have f_lo := (low_zero imm 0 (by omega)).1 f_imm.2
  unfold word_H
  generalize cd k = c
  generalize ff k = f
  generalize ot k = o
  refine ⟨?_, ?_, ?_⟩
  · apply Bits.ext; intro i hi
    rcases lt64 i hi with rfl | rfl | rfl | rfl | rfl | rfl | rfl | rfl | rfl | rfl | rfl | rfl | rfl | rfl | rfl | rfl | rfl | rfl | rfl | rfl | rfl | rfl | rfl | rfl | rfl | rfl | rfl | rfl | rfl | rfl | rfl | rfl | rfl | rfl | rfl | rfl | rfl | rfl | rfl | rfl | rfl | rfl | rfl | rfl | rfl | rfl | rfl | rfl | rfl | rfl | rfl | rfl | rfl | rfl | rfl | rfl | rfl | rfl | rfl | rfl | rfl | rfl | rfl | rfl <;> simp (disch := omega) [-BitVec.getLsbD_eq_getElem, BitVec.getLsbD_and, putI_bit, getI_bit, signI_bit, f_rd, f_rs1, f_hi, f_lo]
  · apply Bits.ext; intro i hi
    rcases lt64 i hi with rfl | rfl | rfl | rfl | rfl | rfl | rfl | rfl | rfl | rfl | rfl | rfl | rfl | rfl | rfl | rfl | rfl | rfl | rfl | rfl | rfl | rfl | rfl | rfl | rfl | rfl | rfl | rfl | rfl | rfl | rfl | rfl | rfl | rfl | rfl | rfl | rfl | rfl | rfl | rfl | rfl | rfl | rfl | rfl | rfl | rfl | rfl | rfl | rfl | rfl | rfl | rfl | rfl | rfl | rfl | rfl | rfl | rfl | rfl | rfl | rfl | rfl | rfl | rfl <;> simp (disch := omega) [-BitVec.getLsbD_eq_getElem, BitVec.getLsbD_and, putI_bit, getI_bit, signI_bit, f_rd, f_rs1, f_hi, f_lo]
  · apply Bits.ext; intro i hi
    rcases lt64 i hi with rfl | rfl | rfl | rfl | rfl | rfl | rfl | rfl | rfl | rfl | rfl | rfl | rfl | rfl | rfl | rfl | rfl | rfl | rfl | rfl | rfl | rfl | rfl | rfl | rfl | rfl | rfl | rfl | rfl | rfl | rfl | rfl | rfl | rfl | rfl | rfl | rfl | rfl | rfl | rfl | rfl | rfl | rfl | rfl | rfl | rfl | rfl | rfl | rfl | rfl | rfl | rfl | rfl | rfl | rfl | rfl | rfl | rfl | rfl | rfl | rfl | rfl | rfl | rfl <;> simp (disch := omega) [-BitVec.getLsbD_eq_getElem, BitVec.getLsbD_and, putI_bit, getI_bit, signI_bit, f_rd, f_rs1, f_hi, f_lo]
set_option maxHeartbeats 8000000 in
theorem back_S (k : Nat) (rd rs1 rs2 imm : BitVec 64) (f_rs1 : fitsI rs1 5 false = true) (f_rs2 : fitsI rs2 5 false = true) (f_imm : fitB_S imm = true) : (getI (word_S k rd rs1 rs2 imm &&& 4294967295#64) 15 5) = rs1 ∧ (getI (word_S k rd rs1 rs2 imm &&& 4294967295#64) 20 5) = rs2 ∧ (signI (putI (putI 0#64 0 5 (getI (word_S k rd rs1 rs2 imm &&& 4294967295#64) 7 5)) 5 7 (getI (word_S k rd rs1 rs2 imm &&& 4294967295#64) 25 7)) 12) = imm := by
  have f_rs1 := (fits_no rs1 5 (by omega) (by omega)).1 f_rs1
  have f_rs2 := (fits_no rs2 5 (by omega) (by omega)).1 f_rs2
  unfold fitB_S at f_imm
  rw [Bool.and_eq_true] at f_imm
  have f_hi := (fits_yes imm 12 (by omega) (by omega)).1 f_imm.1
  have f_lo := (low_zero imm 0 (by omega)).1 f_imm.2
  unfold word_S
  generalize cd k = c
  generalize ff k = f
  generalize ot k = o
  refine ⟨?_, ?_, ?_⟩
  · apply Bits.ext; intro i hi
    rcases lt64 i hi with rfl | rfl | rfl | rfl | rfl | rfl | rfl | rfl | rfl | rfl | rfl | rfl | rfl | rfl | rfl | rfl | rfl | rfl | rfl | rfl | rfl | rfl | rfl | rfl | rfl | rfl | rfl | rfl | rfl | rfl | rfl | rfl | rfl | rfl | rfl | rfl | rfl | rfl | rfl | rfl | rfl | rfl | rfl | rfl | rfl | rfl | rfl | rfl | rfl | rfl | rfl | rfl | rfl | rfl | rfl | rfl | rfl | rfl | rfl | rfl | rfl | rfl | rfl | rfl <;> simp (disch := omega) [-BitVec.getLsbD_eq_getElem, BitVec.getLsbD_and, putI_bit, getI_bit, signI_bit, f_rs1, f_rs2, f_hi, f_lo]
  · apply Bits.ext; intro i hi
    rcases lt64 i hi with rfl | rfl | rfl | rfl | rfl | rfl | rfl | rfl | rfl | rfl | rfl | rfl | rfl | rfl | rfl | rfl | rfl | rfl | rfl | rfl | rfl | rfl | rfl | rfl | rfl | rfl | rfl | rfl | rfl | rfl | rfl | rfl | rfl | rfl | rfl | rfl | rfl | rfl | rfl | rfl | rfl | rfl | rfl | rfl | rfl | rfl | rfl | rfl | rfl | rfl | rfl | rfl | rfl | rfl | rfl | rfl | rfl | rfl | rfl | rfl | rfl | rfl | rfl | rfl <;> simp (disch := omega) [-BitVec.getLsbD_eq_getElem, BitVec.getLsbD_and, putI_bit, getI_bit, signI_bit, f_rs1, f_rs2, f_hi, f_lo]
  · apply Bits.ext; intro i hi
    rcases lt64 i hi with rfl | rfl | rfl | rfl | rfl | rfl | rfl | rfl | rfl | rfl | rfl | rfl | rfl | rfl | rfl | rfl | rfl | rfl | rfl | rfl | rfl | rfl | rfl | rfl | rfl | rfl | rfl | rfl | rfl | rfl | rfl | rfl | rfl | rfl | rfl | rfl | rfl | rfl | rfl | rfl | rfl | rfl | rfl | rfl | rfl | rfl | rfl | rfl | rfl | rfl | rfl | rfl | rfl | rfl | rfl | rfl | rfl | rfl | rfl | rfl | rfl | rfl | rfl | rfl <;> simp (disch := omega) [-BitVec.getLsbD_eq_getElem, BitVec.getLsbD_and, putI_bit, getI_bit, signI_bit, f_rs1, f_rs2, f_hi, f_lo]
set_option maxHeartbeats 8000000 in
theorem back_B (k : Nat) (rd rs1 rs2 imm : BitVec 64) (f_rs1 : fitsI rs1 5 false = true) (f_rs2 : fitsI rs2 5 false = true) (f_imm : fitB_B imm = true) : (getI (word_B k rd rs1 rs2 imm &&& 4294967295#64) 15 5) = rs1 ∧ (getI (word_B k rd rs1 rs2 imm &&& 4294967295#64) 20 5) = rs2 ∧ (signI (putI (putI (putI (putI 0#64 1 4 (getI (word_B k rd rs1 rs2 imm &&& 4294967295#64) 8 4)) 5 6 (getI (word_B k rd rs1 rs2 imm &&& 4294967295#64) 25 6)) 11 1 (getI (word_B k rd rs1 rs2 imm &&& 4294967295#64) 7 1)) 12 1 (getI (word_B k rd rs1 rs2 imm &&& 4294967295#64) 31 1)) 13) = imm := by
  have f_rs1 := (fits_no rs1 5 (by omega) (by omega)).1 f_rs1
  have f_rs2 := (fits_no rs2 5 (by omega) (by omega)).1 f_rs2
  unfold fitB_B at f_imm
  rw [Bool.and_eq_true] at f_imm
  have f_hi := (fits_yes imm 13 (by omega) (by omega)).1 f_imm.1
  have f_lo := (low_zero imm 1 (by omega)).1 f_imm.2
  unfold word_B
  generalize cd k = c
  generalize ff k = f
  generalize ot k = o
  refine ⟨?_, ?_, ?_⟩
  · apply Bits.ext; intro i hi
    rcases lt64 i hi with rfl | rfl | rfl | rfl | rfl | rfl | rfl | rfl | rfl | rfl | rfl | rfl | rfl | rfl | rfl | rfl | rfl | rfl | rfl | rfl | rfl | rfl | rfl | rfl | rfl | rfl | rfl | rfl | rfl | rfl | rfl | rfl | rfl | rfl | rfl | rfl | rfl | rfl | rfl | rfl | rfl | rfl | rfl | rfl | rfl | rfl | rfl | rfl | rfl | rfl | rfl | rfl | rfl | rfl | rfl | rfl | rfl | rfl | rfl | rfl | rfl | rfl | rfl | rfl <;> simp (disch := omega) [-BitVec.getLsbD_eq_getElem, BitVec.getLsbD_and, putI_bit, getI_bit, signI_bit, f_rs1, f_rs2, f_hi, f_lo]
  · apply Bits.ext; intro i hi
    rcases lt64 i hi with rfl | rfl | rfl | rfl | rfl | rfl | rfl | rfl | rfl | rfl | rfl | rfl | rfl | rfl | rfl | rfl | rfl | rfl | rfl | rfl | rfl | rfl | rfl | rfl | rfl | rfl | rfl | rfl | rfl | rfl | rfl | rfl | rfl | rfl | rfl | rfl | rfl | rfl | rfl | rfl | rfl | rfl | rfl | rfl | rfl | rfl | rfl | rfl | rfl | rfl | rfl | rfl | rfl | rfl | rfl | rfl | rfl | rfl | rfl | rfl | rfl | rfl | rfl | rfl <;> simp (disch := omega) [-BitVec.getLsbD_eq_getElem, BitVec.getLsbD_and, putI_bit, getI_bit, signI_bit, f_rs1, f_rs2, f_hi, f_lo]
  · apply Bits.ext; intro i hi
    rcases lt64 i hi with rfl | rfl | rfl | rfl | rfl | rfl | rfl | rfl | rfl | rfl | rfl | rfl | rfl | rfl | rfl | rfl | rfl | rfl | rfl | rfl | rfl | rfl | rfl | rfl | rfl | rfl | rfl | rfl | rfl | rfl | rfl | rfl | rfl | rfl | rfl | rfl | rfl | rfl | rfl | rfl | rfl | rfl | rfl | rfl | rfl | rfl | rfl | rfl | rfl | rfl | rfl | rfl | rfl | rfl | rfl | rfl | rfl | rfl | rfl | rfl | rfl | rfl | rfl | rfl <;> simp (disch := omega) [-BitVec.getLsbD_eq_getElem, BitVec.getLsbD_and, putI_bit, getI_bit, signI_bit, f_rs1, f_rs2, f_hi, f_lo]
set_option maxHeartbeats 8000000 in
theorem back_U (k : Nat) (rd rs1 rs2 imm : BitVec 64) (f_rd : fitsI rd 5 false = true) (f_imm : fitB_U imm = true) : (getI (word_U k rd rs1 rs2 imm &&& 4294967295#64) 7 5) = rd ∧ (signI (putI 0#64 12 20 (getI (word_U k rd rs1 rs2 imm &&& 4294967295#64) 12 20)) 32) = imm := by
  have f_rd := (fits_no rd 5 (by omega) (by omega)).1 f_rd
  unfold fitB_U at f_imm
  rw [Bool.and_eq_true] at f_imm
  have f_hi := (fits_yes imm 32 (by omega) (by omega)).1 f_imm.1
  have f_lo := (low_zero imm 12 (by omega)).1 f_imm.2
  unfold word_U
  generalize cd k = c
  generalize ff k = f
  generalize ot k = o
  refine ⟨?_, ?_⟩
  · apply Bits.ext; intro i hi
    rcases lt64 i hi with rfl | rfl | rfl | rfl | rfl | rfl | rfl | rfl | rfl | rfl | rfl | rfl | rfl | rfl | rfl | rfl | rfl | rfl | rfl | rfl | rfl | rfl | rfl | rfl | rfl | rfl | rfl | rfl | rfl | rfl | rfl | rfl | rfl | rfl | rfl | rfl | rfl | rfl | rfl | rfl | rfl | rfl | rfl | rfl | rfl | rfl | rfl | rfl | rfl | rfl | rfl | rfl | rfl | rfl | rfl | rfl | rfl | rfl | rfl | rfl | rfl | rfl | rfl | rfl <;> simp (disch := omega) [-BitVec.getLsbD_eq_getElem, BitVec.getLsbD_and, putI_bit, getI_bit, signI_bit, f_rd, f_hi, f_lo]
  · apply Bits.ext; intro i hi
    rcases lt64 i hi with rfl | rfl | rfl | rfl | rfl | rfl | rfl | rfl | rfl | rfl | rfl | rfl | rfl | rfl | rfl | rfl | rfl | rfl | rfl | rfl | rfl | rfl | rfl | rfl | rfl | rfl | rfl | rfl | rfl | rfl | rfl | rfl | rfl | rfl | rfl | rfl | rfl | rfl | rfl | rfl | rfl | rfl | rfl | rfl | rfl | rfl | rfl | rfl | rfl | rfl | rfl | rfl | rfl | rfl | rfl | rfl | rfl | rfl | rfl | rfl | rfl | rfl | rfl | rfl <;> simp (disch := omega) [-BitVec.getLsbD_eq_getElem, BitVec.getLsbD_and, putI_bit, getI_bit, signI_bit, f_rd, f_hi, f_lo]
set_option maxHeartbeats 8000000 in
theorem back_J (k : Nat) (rd rs1 rs2 imm : BitVec 64) (f_rd : fitsI rd 5 false = true) (f_imm : fitB_J imm = true) : (getI (word_J k rd rs1 rs2 imm &&& 4294967295#64) 7 5) = rd ∧ (signI (putI (putI (putI (putI 0#64 12 8 (getI (word_J k rd rs1 rs2 imm &&& 4294967295#64) 12 8)) 11 1 (getI (word_J k rd rs1 rs2 imm &&& 4294967295#64) 20 1)) 1 10 (getI (word_J k rd rs1 rs2 imm &&& 4294967295#64) 21 10)) 20 1 (getI (word_J k rd rs1 rs2 imm &&& 4294967295#64) 31 1)) 21) = imm := by
  have f_rd := (fits_no rd 5 (by omega) (by omega)).1 f_rd
  unfold fitB_J at f_imm
  rw [Bool.and_eq_true] at f_imm
  have f_hi := (fits_yes imm 21 (by omega) (by omega)).1 f_imm.1
  have f_lo := (low_zero imm 1 (by omega)).1 f_imm.2
  unfold word_J
  generalize cd k = c
  generalize ff k = f
  generalize ot k = o
  refine ⟨?_, ?_⟩
  · apply Bits.ext; intro i hi
    rcases lt64 i hi with rfl | rfl | rfl | rfl | rfl | rfl | rfl | rfl | rfl | rfl | rfl | rfl | rfl | rfl | rfl | rfl | rfl | rfl | rfl | rfl | rfl | rfl | rfl | rfl | rfl | rfl | rfl | rfl | rfl | rfl | rfl | rfl | rfl | rfl | rfl | rfl | rfl | rfl | rfl | rfl | rfl | rfl | rfl | rfl | rfl | rfl | rfl | rfl | rfl | rfl | rfl | rfl | rfl | rfl | rfl | rfl | rfl | rfl | rfl | rfl | rfl | rfl | rfl | rfl <;> simp (disch := omega) [-BitVec.getLsbD_eq_getElem, BitVec.getLsbD_and, putI_bit, getI_bit, signI_bit, f_rd, f_hi, f_lo]
  · apply Bits.ext; intro i hi
    rcases lt64 i hi with rfl | rfl | rfl | rfl | rfl | rfl | rfl | rfl | rfl | rfl | rfl | rfl | rfl | rfl | rfl | rfl | rfl | rfl | rfl | rfl | rfl | rfl | rfl | rfl | rfl | rfl | rfl | rfl | rfl | rfl | rfl | rfl | rfl | rfl | rfl | rfl | rfl | rfl | rfl | rfl | rfl | rfl | rfl | rfl | rfl | rfl | rfl | rfl | rfl | rfl | rfl | rfl | rfl | rfl | rfl | rfl | rfl | rfl | rfl | rfl | rfl | rfl | rfl | rfl <;> simp (disch := omega) [-BitVec.getLsbD_eq_getElem, BitVec.getLsbD_and, putI_bit, getI_bit, signI_bit, f_rd, f_hi, f_lo]
end Go.Proofs.Ytpmpibcfmejbfaa.Inst
