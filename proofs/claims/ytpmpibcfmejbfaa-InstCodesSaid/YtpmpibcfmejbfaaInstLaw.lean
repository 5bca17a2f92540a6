/- A word and its instruction, for every line of the table. No program in sight. -/
import Derived.Test.YtpmpibcfmejbfaaInstClash
namespace Go.Proofs.Ytpmpibcfmejbfaa.Inst
open Go.RowKit Go.Proofs.Ytpmpibcfmejbfaa.Bits
set_option linter.unusedSimpArgs false
set_option linter.unusedVariables false
theorem reg_fit (x : BitVec 64) (a : Int) (ha : 0 ≤ a ∧ a ≤ 59) : fitsI (getI x a 5) 5 false = true :=
  (fits_no _ 5 (by omega) (by omega)).2 fun i hw hi => by
    rw [getI_bit x a 5 i (by omega), decide_eq_false (show ¬ i < (5 : Int).toNat from by have : (5 : Int).toNat = 5 := rfl; omega)]
    rfl
theorem okB_R (k : Nat) (hs : sh k = 82) (rd rs1 rs2 imm : BitVec 64) : okB k rd rs1 rs2 imm = (fitsI rd 5 false && fitsI rs1 5 false && fitsI rs2 5 false) := by
  unfold okB; simp only [hs]; rfl
theorem okB_G (k : Nat) (hs : sh k = 71) (rd rs1 rs2 imm : BitVec 64) : okB k rd rs1 rs2 imm = (fitsI rd 5 false && fitsI rs1 5 false) := by
  unfold okB; simp only [hs]; rfl
theorem okB_I (k : Nat) (hs : sh k = 73) (rd rs1 rs2 imm : BitVec 64) : okB k rd rs1 rs2 imm = (fitB_I imm && fitsI rd 5 false && fitsI rs1 5 false) := by
  unfold okB; simp only [hs]; rfl
theorem okB_C (k : Nat) (hs : sh k = 67) (rd rs1 rs2 imm : BitVec 64) : okB k rd rs1 rs2 imm = (fitB_C imm && fitsI rd 5 false && fitsI rs1 5 false) := by
  unfold okB; simp only [hs]; rfl
theorem okB_H (k : Nat) (hs : sh k = 72) (rd rs1 rs2 imm : BitVec 64) : okB k rd rs1 rs2 imm = (fitB_H imm && fitsI rd 5 false && fitsI rs1 5 false) := by
  unfold okB; simp only [hs]; rfl
theorem okB_S (k : Nat) (hs : sh k = 83) (rd rs1 rs2 imm : BitVec 64) : okB k rd rs1 rs2 imm = (fitB_S imm && fitsI rs1 5 false && fitsI rs2 5 false) := by
  unfold okB; simp only [hs]; rfl
theorem okB_B (k : Nat) (hs : sh k = 66) (rd rs1 rs2 imm : BitVec 64) : okB k rd rs1 rs2 imm = (fitB_B imm && fitsI rs1 5 false && fitsI rs2 5 false) := by
  unfold okB; simp only [hs]; rfl
theorem okB_U (k : Nat) (hs : sh k = 85) (rd rs1 rs2 imm : BitVec 64) : okB k rd rs1 rs2 imm = (fitB_U imm && fitsI rd 5 false) := by
  unfold okB; simp only [hs]; rfl
theorem okB_J (k : Nat) (hs : sh k = 74) (rd rs1 rs2 imm : BitVec 64) : okB k rd rs1 rs2 imm = (fitB_J imm && fitsI rd 5 false) := by
  unfold okB; simp only [hs]; rfl
theorem okB_N (k : Nat) (hs : sh k = 78) (rd rs1 rs2 imm : BitVec 64) : okB k rd rs1 rs2 imm = (true) := by
  unfold okB; simp only [hs]; rfl
theorem wordK_R (k : Nat) (hs : sh k = 82) (rd rs1 rs2 imm : BitVec 64) : wordK k rd rs1 rs2 imm = word_R k rd rs1 rs2 imm := by
  unfold wordK; simp only [hs]; rfl
theorem wordK_G (k : Nat) (hs : sh k = 71) (rd rs1 rs2 imm : BitVec 64) : wordK k rd rs1 rs2 imm = word_G k rd rs1 rs2 imm := by
  unfold wordK; simp only [hs]; rfl
theorem wordK_I (k : Nat) (hs : sh k = 73) (rd rs1 rs2 imm : BitVec 64) : wordK k rd rs1 rs2 imm = word_I k rd rs1 rs2 imm := by
  unfold wordK; simp only [hs]; rfl
theorem wordK_C (k : Nat) (hs : sh k = 67) (rd rs1 rs2 imm : BitVec 64) : wordK k rd rs1 rs2 imm = word_C k rd rs1 rs2 imm := by
  unfold wordK; simp only [hs]; rfl
theorem wordK_H (k : Nat) (hs : sh k = 72) (rd rs1 rs2 imm : BitVec 64) : wordK k rd rs1 rs2 imm = word_H k rd rs1 rs2 imm := by
  unfold wordK; simp only [hs]; rfl
theorem wordK_S (k : Nat) (hs : sh k = 83) (rd rs1 rs2 imm : BitVec 64) : wordK k rd rs1 rs2 imm = word_S k rd rs1 rs2 imm := by
  unfold wordK; simp only [hs]; rfl
theorem wordK_B (k : Nat) (hs : sh k = 66) (rd rs1 rs2 imm : BitVec 64) : wordK k rd rs1 rs2 imm = word_B k rd rs1 rs2 imm := by
  unfold wordK; simp only [hs]; rfl
theorem wordK_U (k : Nat) (hs : sh k = 85) (rd rs1 rs2 imm : BitVec 64) : wordK k rd rs1 rs2 imm = word_U k rd rs1 rs2 imm := by
  unfold wordK; simp only [hs]; rfl
theorem wordK_J (k : Nat) (hs : sh k = 74) (rd rs1 rs2 imm : BitVec 64) : wordK k rd rs1 rs2 imm = word_J k rd rs1 rs2 imm := by
  unfold wordK; simp only [hs]; rfl
theorem wordK_N (k : Nat) (hs : sh k = 78) (rd rs1 rs2 imm : BitVec 64) : wordK k rd rs1 rs2 imm = word_N k rd rs1 rs2 imm := by
  unfold wordK; simp only [hs]; rfl
theorem rdK_R (k : Nat) (hs : sh k = 82) (x : BitVec 64) : rdK k x = getI x 7 5 := by
  unfold rdK; simp only [hs]; rfl
theorem rdK_G (k : Nat) (hs : sh k = 71) (x : BitVec 64) : rdK k x = getI x 7 5 := by
  unfold rdK; simp only [hs]; rfl
theorem rdK_I (k : Nat) (hs : sh k = 73) (x : BitVec 64) : rdK k x = getI x 7 5 := by
  unfold rdK; simp only [hs]; rfl
theorem rdK_C (k : Nat) (hs : sh k = 67) (x : BitVec 64) : rdK k x = getI x 7 5 := by
  unfold rdK; simp only [hs]; rfl
theorem rdK_H (k : Nat) (hs : sh k = 72) (x : BitVec 64) : rdK k x = getI x 7 5 := by
  unfold rdK; simp only [hs]; rfl
theorem rdK_S (k : Nat) (hs : sh k = 83) (x : BitVec 64) : rdK k x = 0#64 := by
  unfold rdK; simp only [hs]; rfl
theorem rdK_B (k : Nat) (hs : sh k = 66) (x : BitVec 64) : rdK k x = 0#64 := by
  unfold rdK; simp only [hs]; rfl
theorem rdK_U (k : Nat) (hs : sh k = 85) (x : BitVec 64) : rdK k x = getI x 7 5 := by
  unfold rdK; simp only [hs]; rfl
theorem rdK_J (k : Nat) (hs : sh k = 74) (x : BitVec 64) : rdK k x = getI x 7 5 := by
  unfold rdK; simp only [hs]; rfl
theorem rdK_N (k : Nat) (hs : sh k = 78) (x : BitVec 64) : rdK k x = 0#64 := by
  unfold rdK; simp only [hs]; rfl
theorem rdH_R (k : Nat) (hs : sh k = 82) (y : BitVec 64) : rdH k y = y := by
  unfold rdH; simp only [hs]; rfl
theorem rdH_G (k : Nat) (hs : sh k = 71) (y : BitVec 64) : rdH k y = y := by
  unfold rdH; simp only [hs]; rfl
theorem rdH_I (k : Nat) (hs : sh k = 73) (y : BitVec 64) : rdH k y = y := by
  unfold rdH; simp only [hs]; rfl
theorem rdH_C (k : Nat) (hs : sh k = 67) (y : BitVec 64) : rdH k y = y := by
  unfold rdH; simp only [hs]; rfl
theorem rdH_H (k : Nat) (hs : sh k = 72) (y : BitVec 64) : rdH k y = y := by
  unfold rdH; simp only [hs]; rfl
theorem rdH_S (k : Nat) (hs : sh k = 83) (y : BitVec 64) : rdH k y = 0#64 := by
  unfold rdH; simp only [hs]; rfl
theorem rdH_B (k : Nat) (hs : sh k = 66) (y : BitVec 64) : rdH k y = 0#64 := by
  unfold rdH; simp only [hs]; rfl
theorem rdH_U (k : Nat) (hs : sh k = 85) (y : BitVec 64) : rdH k y = y := by
  unfold rdH; simp only [hs]; rfl
theorem rdH_J (k : Nat) (hs : sh k = 74) (y : BitVec 64) : rdH k y = y := by
  unfold rdH; simp only [hs]; rfl
theorem rdH_N (k : Nat) (hs : sh k = 78) (y : BitVec 64) : rdH k y = 0#64 := by
  unfold rdH; simp only [hs]; rfl
theorem rs1K_R (k : Nat) (hs : sh k = 82) (x : BitVec 64) : rs1K k x = getI x 15 5 := by
  unfold rs1K; simp only [hs]; rfl
theorem rs1K_G (k : Nat) (hs : sh k = 71) (x : BitVec 64) : rs1K k x = getI x 15 5 := by
  unfold rs1K; simp only [hs]; rfl
theorem rs1K_I (k : Nat) (hs : sh k = 73) (x : BitVec 64) : rs1K k x = getI x 15 5 := by
  unfold rs1K; simp only [hs]; rfl
theorem rs1K_C (k : Nat) (hs : sh k = 67) (x : BitVec 64) : rs1K k x = getI x 15 5 := by
  unfold rs1K; simp only [hs]; rfl
theorem rs1K_H (k : Nat) (hs : sh k = 72) (x : BitVec 64) : rs1K k x = getI x 15 5 := by
  unfold rs1K; simp only [hs]; rfl
theorem rs1K_S (k : Nat) (hs : sh k = 83) (x : BitVec 64) : rs1K k x = getI x 15 5 := by
  unfold rs1K; simp only [hs]; rfl
theorem rs1K_B (k : Nat) (hs : sh k = 66) (x : BitVec 64) : rs1K k x = getI x 15 5 := by
  unfold rs1K; simp only [hs]; rfl
theorem rs1K_U (k : Nat) (hs : sh k = 85) (x : BitVec 64) : rs1K k x = 0#64 := by
  unfold rs1K; simp only [hs]; rfl
theorem rs1K_J (k : Nat) (hs : sh k = 74) (x : BitVec 64) : rs1K k x = 0#64 := by
  unfold rs1K; simp only [hs]; rfl
theorem rs1K_N (k : Nat) (hs : sh k = 78) (x : BitVec 64) : rs1K k x = 0#64 := by
  unfold rs1K; simp only [hs]; rfl
theorem rs1H_R (k : Nat) (hs : sh k = 82) (y : BitVec 64) : rs1H k y = y := by
  unfold rs1H; simp only [hs]; rfl
theorem rs1H_G (k : Nat) (hs : sh k = 71) (y : BitVec 64) : rs1H k y = y := by
  unfold rs1H; simp only [hs]; rfl
theorem rs1H_I (k : Nat) (hs : sh k = 73) (y : BitVec 64) : rs1H k y = y := by
  unfold rs1H; simp only [hs]; rfl
theorem rs1H_C (k : Nat) (hs : sh k = 67) (y : BitVec 64) : rs1H k y = y := by
  unfold rs1H; simp only [hs]; rfl
theorem rs1H_H (k : Nat) (hs : sh k = 72) (y : BitVec 64) : rs1H k y = y := by
  unfold rs1H; simp only [hs]; rfl
theorem rs1H_S (k : Nat) (hs : sh k = 83) (y : BitVec 64) : rs1H k y = y := by
  unfold rs1H; simp only [hs]; rfl
theorem rs1H_B (k : Nat) (hs : sh k = 66) (y : BitVec 64) : rs1H k y = y := by
  unfold rs1H; simp only [hs]; rfl
theorem rs1H_U (k : Nat) (hs : sh k = 85) (y : BitVec 64) : rs1H k y = 0#64 := by
  unfold rs1H; simp only [hs]; rfl
theorem rs1H_J (k : Nat) (hs : sh k = 74) (y : BitVec 64) : rs1H k y = 0#64 := by
  unfold rs1H; simp only [hs]; rfl
theorem rs1H_N (k : Nat) (hs : sh k = 78) (y : BitVec 64) : rs1H k y = 0#64 := by
  unfold rs1H; simp only [hs]; rfl
theorem rs2K_R (k : Nat) (hs : sh k = 82) (x : BitVec 64) : rs2K k x = getI x 20 5 := by
  unfold rs2K; simp only [hs]; rfl
theorem rs2K_G (k : Nat) (hs : sh k = 71) (x : BitVec 64) : rs2K k x = 0#64 := by
  unfold rs2K; simp only [hs]; rfl
theorem rs2K_I (k : Nat) (hs : sh k = 73) (x : BitVec 64) : rs2K k x = 0#64 := by
  unfold rs2K; simp only [hs]; rfl
theorem rs2K_C (k : Nat) (hs : sh k = 67) (x : BitVec 64) : rs2K k x = 0#64 := by
  unfold rs2K; simp only [hs]; rfl
theorem rs2K_H (k : Nat) (hs : sh k = 72) (x : BitVec 64) : rs2K k x = 0#64 := by
  unfold rs2K; simp only [hs]; rfl
theorem rs2K_S (k : Nat) (hs : sh k = 83) (x : BitVec 64) : rs2K k x = getI x 20 5 := by
  unfold rs2K; simp only [hs]; rfl
theorem rs2K_B (k : Nat) (hs : sh k = 66) (x : BitVec 64) : rs2K k x = getI x 20 5 := by
  unfold rs2K; simp only [hs]; rfl
theorem rs2K_U (k : Nat) (hs : sh k = 85) (x : BitVec 64) : rs2K k x = 0#64 := by
  unfold rs2K; simp only [hs]; rfl
theorem rs2K_J (k : Nat) (hs : sh k = 74) (x : BitVec 64) : rs2K k x = 0#64 := by
  unfold rs2K; simp only [hs]; rfl
theorem rs2K_N (k : Nat) (hs : sh k = 78) (x : BitVec 64) : rs2K k x = 0#64 := by
  unfold rs2K; simp only [hs]; rfl
theorem rs2H_R (k : Nat) (hs : sh k = 82) (y : BitVec 64) : rs2H k y = y := by
  unfold rs2H; simp only [hs]; rfl
theorem rs2H_G (k : Nat) (hs : sh k = 71) (y : BitVec 64) : rs2H k y = 0#64 := by
  unfold rs2H; simp only [hs]; rfl
theorem rs2H_I (k : Nat) (hs : sh k = 73) (y : BitVec 64) : rs2H k y = 0#64 := by
  unfold rs2H; simp only [hs]; rfl
theorem rs2H_C (k : Nat) (hs : sh k = 67) (y : BitVec 64) : rs2H k y = 0#64 := by
  unfold rs2H; simp only [hs]; rfl
theorem rs2H_H (k : Nat) (hs : sh k = 72) (y : BitVec 64) : rs2H k y = 0#64 := by
  unfold rs2H; simp only [hs]; rfl
theorem rs2H_S (k : Nat) (hs : sh k = 83) (y : BitVec 64) : rs2H k y = y := by
  unfold rs2H; simp only [hs]; rfl
theorem rs2H_B (k : Nat) (hs : sh k = 66) (y : BitVec 64) : rs2H k y = y := by
  unfold rs2H; simp only [hs]; rfl
theorem rs2H_U (k : Nat) (hs : sh k = 85) (y : BitVec 64) : rs2H k y = 0#64 := by
  unfold rs2H; simp only [hs]; rfl
theorem rs2H_J (k : Nat) (hs : sh k = 74) (y : BitVec 64) : rs2H k y = 0#64 := by
  unfold rs2H; simp only [hs]; rfl
theorem rs2H_N (k : Nat) (hs : sh k = 78) (y : BitVec 64) : rs2H k y = 0#64 := by
  unfold rs2H; simp only [hs]; rfl
theorem immK_R (k : Nat) (hs : sh k = 82) (x : BitVec 64) : immK k x = 0#64 := by
  unfold immK; simp only [hs]; rfl
theorem immK_G (k : Nat) (hs : sh k = 71) (x : BitVec 64) : immK k x = 0#64 := by
  unfold immK; simp only [hs]; rfl
theorem immK_I (k : Nat) (hs : sh k = 73) (x : BitVec 64) : immK k x = signI (putI 0#64 0 12 (getI x 20 12)) 12 := by
  unfold immK; simp only [hs]; rfl
theorem immK_C (k : Nat) (hs : sh k = 67) (x : BitVec 64) : immK k x = putI 0#64 0 12 (getI x 20 12) := by
  unfold immK; simp only [hs]; rfl
theorem immK_H (k : Nat) (hs : sh k = 72) (x : BitVec 64) : immK k x = putI 0#64 0 6 (getI x 20 6) := by
  unfold immK; simp only [hs]; rfl
theorem immK_S (k : Nat) (hs : sh k = 83) (x : BitVec 64) : immK k x = signI (putI (putI 0#64 0 5 (getI x 7 5)) 5 7 (getI x 25 7)) 12 := by
  unfold immK; simp only [hs]; rfl
theorem immK_B (k : Nat) (hs : sh k = 66) (x : BitVec 64) : immK k x = signI (putI (putI (putI (putI 0#64 1 4 (getI x 8 4)) 5 6 (getI x 25 6)) 11 1 (getI x 7 1)) 12 1 (getI x 31 1)) 13 := by
  unfold immK; simp only [hs]; rfl
theorem immK_U (k : Nat) (hs : sh k = 85) (x : BitVec 64) : immK k x = signI (putI 0#64 12 20 (getI x 12 20)) 32 := by
  unfold immK; simp only [hs]; rfl
theorem immK_J (k : Nat) (hs : sh k = 74) (x : BitVec 64) : immK k x = signI (putI (putI (putI (putI 0#64 12 8 (getI x 12 8)) 11 1 (getI x 20 1)) 1 10 (getI x 21 10)) 20 1 (getI x 31 1)) 21 := by
  unfold immK; simp only [hs]; rfl
theorem immK_N (k : Nat) (hs : sh k = 78) (x : BitVec 64) : immK k x = 0#64 := by
  unfold immK; simp only [hs]; rfl
theorem immH_R (k : Nat) (hs : sh k = 82) (y : BitVec 64) : immH k y = 0#64 := by
  unfold immH; simp only [hs]; rfl
theorem immH_G (k : Nat) (hs : sh k = 71) (y : BitVec 64) : immH k y = 0#64 := by
  unfold immH; simp only [hs]; rfl
theorem immH_I (k : Nat) (hs : sh k = 73) (y : BitVec 64) : immH k y = y := by
  unfold immH; simp only [hs]; rfl
theorem immH_C (k : Nat) (hs : sh k = 67) (y : BitVec 64) : immH k y = y := by
  unfold immH; simp only [hs]; rfl
theorem immH_H (k : Nat) (hs : sh k = 72) (y : BitVec 64) : immH k y = y := by
  unfold immH; simp only [hs]; rfl
theorem immH_S (k : Nat) (hs : sh k = 83) (y : BitVec 64) : immH k y = y := by
  unfold immH; simp only [hs]; rfl
theorem immH_B (k : Nat) (hs : sh k = 66) (y : BitVec 64) : immH k y = y := by
  unfold immH; simp only [hs]; rfl
theorem immH_U (k : Nat) (hs : sh k = 85) (y : BitVec 64) : immH k y = y := by
  unfold immH; simp only [hs]; rfl
theorem immH_J (k : Nat) (hs : sh k = 74) (y : BitVec 64) : immH k y = y := by
  unfold immH; simp only [hs]; rfl
theorem immH_N (k : Nat) (hs : sh k = 78) (y : BitVec 64) : immH k y = 0#64 := by
  unfold immH; simp only [hs]; rfl
theorem dec_enc (k : Nat) (hk : k < 69) (rd rs1 rs2 imm : BitVec 64) (h : okB k rd rs1 rs2 imm = true) :
    rdK k (wordK k rd rs1 rs2 imm &&& 4294967295#64) = rdH k rd ∧ rs1K k (wordK k rd rs1 rs2 imm &&& 4294967295#64) = rs1H k rs1 ∧ rs2K k (wordK k rd rs1 rs2 imm &&& 4294967295#64) = rs2H k rs2 ∧ immK k (wordK k rd rs1 rs2 imm &&& 4294967295#64) = immH k imm := by
  rcases shapes k hk with hs | hs | hs | hs | hs | hs | hs | hs | hs | hs
  · rw [okB_R k hs] at h
    rw [wordK_R k hs, rdK_R k hs, rs1K_R k hs, rs2K_R k hs, immK_R k hs, rdH_R k hs, rs1H_R k hs, rs2H_R k hs, immH_R k hs]
    simp only [Bool.and_eq_true] at h
    obtain ⟨⟨h_rd, h_rs1⟩, h_rs2⟩ := h
    obtain ⟨e_rd, e_rs1, e_rs2⟩ := back_R k rd rs1 rs2 imm h_rd h_rs1 h_rs2
    exact ⟨e_rd, e_rs1, e_rs2, rfl⟩
  · rw [okB_G k hs] at h
    rw [wordK_G k hs, rdK_G k hs, rs1K_G k hs, rs2K_G k hs, immK_G k hs, rdH_G k hs, rs1H_G k hs, rs2H_G k hs, immH_G k hs]
    simp only [Bool.and_eq_true] at h
    obtain ⟨h_rd, h_rs1⟩ := h
    obtain ⟨e_rd, e_rs1⟩ := back_G k rd rs1 rs2 imm h_rd h_rs1
    exact ⟨e_rd, e_rs1, rfl, rfl⟩
  · rw [okB_I k hs] at h
    rw [wordK_I k hs, rdK_I k hs, rs1K_I k hs, rs2K_I k hs, immK_I k hs, rdH_I k hs, rs1H_I k hs, rs2H_I k hs, immH_I k hs]
    simp only [Bool.and_eq_true] at h
    obtain ⟨⟨h_imm, h_rd⟩, h_rs1⟩ := h
    obtain ⟨e_rd, e_rs1, e_imm⟩ := back_I k rd rs1 rs2 imm h_rd h_rs1 h_imm
    exact ⟨e_rd, e_rs1, rfl, e_imm⟩
  · rw [okB_C k hs] at h
    rw [wordK_C k hs, rdK_C k hs, rs1K_C k hs, rs2K_C k hs, immK_C k hs, rdH_C k hs, rs1H_C k hs, rs2H_C k hs, immH_C k hs]
    simp only [Bool.and_eq_true] at h
    obtain ⟨⟨h_imm, h_rd⟩, h_rs1⟩ := h
    obtain ⟨e_rd, e_rs1, e_imm⟩ := back_C k rd rs1 rs2 imm h_rd h_rs1 h_imm
    exact ⟨e_rd, e_rs1, rfl, e_imm⟩
  · rw [okB_H k hs] at h
    rw [wordK_H k hs, rdK_H k hs, rs1K_H k hs, rs2K_H k hs, immK_H k hs, rdH_H k hs, rs1H_H k hs, rs2H_H k hs, immH_H k hs]
    simp only [Bool.and_eq_true] at h
    obtain ⟨⟨h_imm, h_rd⟩, h_rs1⟩ := h
    obtain ⟨e_rd, e_rs1, e_imm⟩ := back_H k rd rs1 rs2 imm h_rd h_rs1 h_imm
    exact ⟨e_rd, e_rs1, rfl, e_imm⟩
  · rw [okB_S k hs] at h
    rw [wordK_S k hs, rdK_S k hs, rs1K_S k hs, rs2K_S k hs, immK_S k hs, rdH_S k hs, rs1H_S k hs, rs2H_S k hs, immH_S k hs]
    simp only [Bool.and_eq_true] at h
    obtain ⟨⟨h_imm, h_rs1⟩, h_rs2⟩ := h
    obtain ⟨e_rs1, e_rs2, e_imm⟩ := back_S k rd rs1 rs2 imm h_rs1 h_rs2 h_imm
    exact ⟨rfl, e_rs1, e_rs2, e_imm⟩
  · rw [okB_B k hs] at h
    rw [wordK_B k hs, rdK_B k hs, rs1K_B k hs, rs2K_B k hs, immK_B k hs, rdH_B k hs, rs1H_B k hs, rs2H_B k hs, immH_B k hs]
    simp only [Bool.and_eq_true] at h
    obtain ⟨⟨h_imm, h_rs1⟩, h_rs2⟩ := h
    obtain ⟨e_rs1, e_rs2, e_imm⟩ := back_B k rd rs1 rs2 imm h_rs1 h_rs2 h_imm
    exact ⟨rfl, e_rs1, e_rs2, e_imm⟩
  · rw [okB_U k hs] at h
    rw [wordK_U k hs, rdK_U k hs, rs1K_U k hs, rs2K_U k hs, immK_U k hs, rdH_U k hs, rs1H_U k hs, rs2H_U k hs, immH_U k hs]
    simp only [Bool.and_eq_true] at h
    obtain ⟨h_imm, h_rd⟩ := h
    obtain ⟨e_rd, e_imm⟩ := back_U k rd rs1 rs2 imm h_rd h_imm
    exact ⟨e_rd, rfl, rfl, e_imm⟩
  · rw [okB_J k hs] at h
    rw [wordK_J k hs, rdK_J k hs, rs1K_J k hs, rs2K_J k hs, immK_J k hs, rdH_J k hs, rs1H_J k hs, rs2H_J k hs, immH_J k hs]
    simp only [Bool.and_eq_true] at h
    obtain ⟨h_imm, h_rd⟩ := h
    obtain ⟨e_rd, e_imm⟩ := back_J k rd rs1 rs2 imm h_rd h_imm
    exact ⟨e_rd, rfl, rfl, e_imm⟩
  · rw [okB_N k hs] at h
    rw [wordK_N k hs, rdK_N k hs, rs1K_N k hs, rs2K_N k hs, immK_N k hs, rdH_N k hs, rs1H_N k hs, rs2H_N k hs, immH_N k hs]
    exact ⟨rfl, rfl, rfl, rfl⟩
theorem enc_dec (k : Nat) (hk : k < 69) (x : BitVec 64) (hx : ∀ i, 32 ≤ i → i < 64 → x.getLsbD i = false) (h : x &&& fmk k = fwk k) :
    okB k (rdK k x) (rs1K k x) (rs2K k x) (immK k x) = true ∧ wordK k (rdK k x) (rs1K k x) (rs2K k x) (immK k x) &&& 4294967295#64 = x := by
  have f7 := reg_fit x 7 (by omega)
  have f15 := reg_fit x 15 (by omega)
  have f20 := reg_fit x 20 (by omega)
  rcases shapes k hk with hs | hs | hs | hs | hs | hs | hs | hs | hs | hs
  · rw [okB_R k hs, wordK_R k hs, rdK_R k hs, rs1K_R k hs, rs2K_R k hs, immK_R k hs]
    exact ⟨Bool.and_eq_true_iff.2 ⟨Bool.and_eq_true_iff.2 ⟨f7, f15⟩, f20⟩, word_back_R k hs x 0#64 0#64 0#64 0#64 hx h⟩
  · rw [okB_G k hs, wordK_G k hs, rdK_G k hs, rs1K_G k hs, rs2K_G k hs, immK_G k hs]
    exact ⟨Bool.and_eq_true_iff.2 ⟨f7, f15⟩, word_back_G k hs x 0#64 0#64 0#64 0#64 hx h⟩
  · rw [okB_I k hs, wordK_I k hs, rdK_I k hs, rs1K_I k hs, rs2K_I k hs, immK_I k hs]
    exact ⟨Bool.and_eq_true_iff.2 ⟨Bool.and_eq_true_iff.2 ⟨immfit_I x, f7⟩, f15⟩, word_back_I k hs x 0#64 0#64 0#64 0#64 hx h⟩
  · rw [okB_C k hs, wordK_C k hs, rdK_C k hs, rs1K_C k hs, rs2K_C k hs, immK_C k hs]
    exact ⟨Bool.and_eq_true_iff.2 ⟨Bool.and_eq_true_iff.2 ⟨immfit_C x, f7⟩, f15⟩, word_back_C k hs x 0#64 0#64 0#64 0#64 hx h⟩
  · rw [okB_H k hs, wordK_H k hs, rdK_H k hs, rs1K_H k hs, rs2K_H k hs, immK_H k hs]
    exact ⟨Bool.and_eq_true_iff.2 ⟨Bool.and_eq_true_iff.2 ⟨immfit_H x, f7⟩, f15⟩, word_back_H k hs x 0#64 0#64 0#64 0#64 hx h⟩
  · rw [okB_S k hs, wordK_S k hs, rdK_S k hs, rs1K_S k hs, rs2K_S k hs, immK_S k hs]
    exact ⟨Bool.and_eq_true_iff.2 ⟨Bool.and_eq_true_iff.2 ⟨immfit_S x, f15⟩, f20⟩, word_back_S k hs x 0#64 0#64 0#64 0#64 hx h⟩
  · rw [okB_B k hs, wordK_B k hs, rdK_B k hs, rs1K_B k hs, rs2K_B k hs, immK_B k hs]
    exact ⟨Bool.and_eq_true_iff.2 ⟨Bool.and_eq_true_iff.2 ⟨immfit_B x, f15⟩, f20⟩, word_back_B k hs x 0#64 0#64 0#64 0#64 hx h⟩
  · rw [okB_U k hs, wordK_U k hs, rdK_U k hs, rs1K_U k hs, rs2K_U k hs, immK_U k hs]
    exact ⟨Bool.and_eq_true_iff.2 ⟨immfit_U x, f7⟩, word_back_U k hs x 0#64 0#64 0#64 0#64 hx h⟩
  · rw [okB_J k hs, wordK_J k hs, rdK_J k hs, rs1K_J k hs, rs2K_J k hs, immK_J k hs]
    exact ⟨Bool.and_eq_true_iff.2 ⟨immfit_J x, f7⟩, word_back_J k hs x 0#64 0#64 0#64 0#64 hx h⟩
  · rw [okB_N k hs, wordK_N k hs, rdK_N k hs, rs1K_N k hs, rs2K_N k hs, immK_N k hs]
    exact ⟨rfl, word_back_N k hs x 0#64 0#64 0#64 0#64 hx h⟩
end Go.Proofs.Ytpmpibcfmejbfaa.Inst
