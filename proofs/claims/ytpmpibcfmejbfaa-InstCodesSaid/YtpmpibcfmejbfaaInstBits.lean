/- Bits of a word of an instruction. No program in sight. -/
import Derived.Test.YtpmpibcfmejbfaaInstEncU
namespace Go.Proofs.Ytpmpibcfmejbfaa.Inst
open Go.RowKit Go.Proofs.Ytpmpibcfmejbfaa.Bits
set_option linter.unusedSimpArgs false
theorem putI_bit (x : BitVec 64) (a w : Int) (v : BitVec 64) (i : Nat) (h : 0 ≤ a ∧ 0 ≤ w ∧ a + w ≤ 64) (hi : i < 64) : (putI x a w v).getLsbD i = if a.toNat ≤ i ∧ i < a.toNat + w.toNat then v.getLsbD (i - a.toNat) else x.getLsbD i := by
  unfold putI
  rw [if_pos (show mayB a w = true from decide_eq_true (by omega))]
  exact put_bit x a.toNat w.toNat v i (by omega) hi
theorem getI_bit (x : BitVec 64) (a w : Int) (i : Nat) (h : 0 ≤ a ∧ 0 ≤ w ∧ a + w ≤ 64) : (getI x a w).getLsbD i = (decide (i < w.toNat) && x.getLsbD (a.toNat + i)) := by
  unfold getI
  rw [if_pos (show mayB a w = true from decide_eq_true (by omega))]
  exact get_bit x a.toNat w.toNat i (by omega)
theorem lt64 (i : Nat) (hi : i < 64) : i = 0 ∨ i = 1 ∨ i = 2 ∨ i = 3 ∨ i = 4 ∨ i = 5 ∨ i = 6 ∨ i = 7 ∨ i = 8 ∨ i = 9 ∨ i = 10 ∨ i = 11 ∨ i = 12 ∨ i = 13 ∨ i = 14 ∨ i = 15 ∨ i = 16 ∨ i = 17 ∨ i = 18 ∨ i = 19 ∨ i = 20 ∨ i = 21 ∨ i = 22 ∨ i = 23 ∨ i = 24 ∨ i = 25 ∨ i = 26 ∨ i = 27 ∨ i = 28 ∨ i = 29 ∨ i = 30 ∨ i = 31 ∨ i = 32 ∨ i = 33 ∨ i = 34 ∨ i = 35 ∨ i = 36 ∨ i = 37 ∨ i = 38 ∨ i = 39 ∨ i = 40 ∨ i = 41 ∨ i = 42 ∨ i = 43 ∨ i = 44 ∨ i = 45 ∨ i = 46 ∨ i = 47 ∨ i = 48 ∨ i = 49 ∨ i = 50 ∨ i = 51 ∨ i = 52 ∨ i = 53 ∨ i = 54 ∨ i = 55 ∨ i = 56 ∨ i = 57 ∨ i = 58 ∨ i = 59 ∨ i = 60 ∨ i = 61 ∨ i = 62 ∨ i = 63 := by omega
set_option maxHeartbeats 4000000 in
theorem fixed_bits_R (k : Nat) (rd rs1 rs2 imm : BitVec 64) (hs : sh k = 82) : word_R k rd rs1 rs2 imm &&& fmk k = fwk k := by
  obtain ⟨h1, h2⟩ := fix_R k hs
  rw [h1, h2]
  unfold word_R
  generalize cd k = c
  generalize ff k = f
  generalize ot k = o
  apply Bits.ext; intro i hi
  simp (disch := omega) only [BitVec.getLsbD_and, putI_bit, getI_bit]
  rcases lt64 i hi with rfl | rfl | rfl | rfl | rfl | rfl | rfl | rfl | rfl | rfl | rfl | rfl | rfl | rfl | rfl | rfl | rfl | rfl | rfl | rfl | rfl | rfl | rfl | rfl | rfl | rfl | rfl | rfl | rfl | rfl | rfl | rfl | rfl | rfl | rfl | rfl | rfl | rfl | rfl | rfl | rfl | rfl | rfl | rfl | rfl | rfl | rfl | rfl | rfl | rfl | rfl | rfl | rfl | rfl | rfl | rfl | rfl | rfl | rfl | rfl | rfl | rfl | rfl | rfl <;> simp
set_option maxHeartbeats 4000000 in
theorem fixed_bits_G (k : Nat) (rd rs1 rs2 imm : BitVec 64) (hs : sh k = 71) : word_G k rd rs1 rs2 imm &&& fmk k = fwk k := by
  obtain ⟨h1, h2⟩ := fix_G k hs
  rw [h1, h2]
  unfold word_G
  generalize cd k = c
  generalize ff k = f
  generalize ot k = o
  apply Bits.ext; intro i hi
  simp (disch := omega) only [BitVec.getLsbD_and, putI_bit, getI_bit]
  rcases lt64 i hi with rfl | rfl | rfl | rfl | rfl | rfl | rfl | rfl | rfl | rfl | rfl | rfl | rfl | rfl | rfl | rfl | rfl | rfl | rfl | rfl | rfl | rfl | rfl | rfl | rfl | rfl | rfl | rfl | rfl | rfl | rfl | rfl | rfl | rfl | rfl | rfl | rfl | rfl | rfl | rfl | rfl | rfl | rfl | rfl | rfl | rfl | rfl | rfl | rfl | rfl | rfl | rfl | rfl | rfl | rfl | rfl | rfl | rfl | rfl | rfl | rfl | rfl | rfl | rfl <;> simp
set_option maxHeartbeats 4000000 in
theorem fixed_bits_I (k : Nat) (rd rs1 rs2 imm : BitVec 64) (hs : sh k = 73) : word_I k rd rs1 rs2 imm &&& fmk k = fwk k := by
  obtain ⟨h1, h2⟩ := fix_I k hs
  rw [h1, h2]
  unfold word_I
  generalize cd k = c
  generalize ff k = f
  generalize ot k = o
  apply Bits.ext; intro i hi
  simp (disch := omega) only [BitVec.getLsbD_and, putI_bit, getI_bit]
  rcases lt64 i hi with rfl | rfl | rfl | rfl | rfl | rfl | rfl | rfl | rfl | rfl | rfl | rfl | rfl | rfl | rfl | rfl | rfl | rfl | rfl | rfl | rfl | rfl | rfl | rfl | rfl | rfl | rfl | rfl | rfl | rfl | rfl | rfl | rfl | rfl | rfl | rfl | rfl | rfl | rfl | rfl | rfl | rfl | rfl | rfl | rfl | rfl | rfl | rfl | rfl | rfl | rfl | rfl | rfl | rfl | rfl | rfl | rfl | rfl | rfl | rfl | rfl | rfl | rfl | rfl <;> simp
set_option maxHeartbeats 4000000 in
theorem fixed_bits_C (k : Nat) (rd rs1 rs2 imm : BitVec 64) (hs : sh k = 67) : word_C k rd rs1 rs2 imm &&& fmk k = fwk k := by
  obtain ⟨h1, h2⟩ := fix_C k hs
  rw [h1, h2]
  unfold word_C
  generalize cd k = c
  generalize ff k = f
  generalize ot k = o
  apply Bits.ext; intro i hi
  simp (disch := omega) only [BitVec.getLsbD_and, putI_bit, getI_bit]
  rcases lt64 i hi with rfl | rfl | rfl | rfl | rfl | rfl | rfl | rfl | rfl | rfl | rfl | rfl | rfl | rfl | rfl | rfl | rfl | rfl | rfl | rfl | rfl | rfl | rfl | rfl | rfl | rfl | rfl | rfl | rfl | rfl | rfl | rfl | rfl | rfl | rfl | rfl | rfl | rfl | rfl | rfl | rfl | rfl | rfl | rfl | rfl | rfl | rfl | rfl | rfl | rfl | rfl | rfl | rfl | rfl | rfl | rfl | rfl | rfl | rfl | rfl | rfl | rfl | rfl | rfl <;> simp
set_option maxHeartbeats 4000000 in
theorem fixed_bits_H (k : Nat) (rd rs1 rs2 imm : BitVec 64) (hs : sh k = 72) : word_H k rd rs1 rs2 imm &&& fmk k = fwk k := by
  obtain ⟨h1, h2⟩ := fix_H k hs
  rw [h1, h2]
  unfold word_H
  generalize cd k = c
  generalize ff k = f
  generalize ot k = o
  apply Bits.ext; intro i hi
  simp (disch := omega) only [BitVec.getLsbD_and, putI_bit, getI_bit]
  rcases lt64 i hi with rfl | rfl | rfl | rfl | rfl | rfl | rfl | rfl | rfl | rfl | rfl | rfl | rfl | rfl | rfl | rfl | rfl | rfl | rfl | rfl | rfl | rfl | rfl | rfl | rfl | rfl | rfl | rfl | rfl | rfl | rfl | rfl | rfl | rfl | rfl | rfl | rfl | rfl | rfl | rfl | rfl | rfl | rfl | rfl | rfl | rfl | rfl | rfl | rfl | rfl | rfl | rfl | rfl | rfl | rfl | rfl | rfl | rfl | rfl | rfl | rfl | rfl | rfl | rfl <;> simp
set_option maxHeartbeats 4000000 in
theorem fixed_bits_S (k : Nat) (rd rs1 rs2 imm : BitVec 64) (hs : sh k = 83) : word_S k rd rs1 rs2 imm &&& fmk k = fwk k := by
  obtain ⟨h1, h2⟩ := fix_S k hs
  rw [h1, h2]
  unfold word_S
  generalize cd k = c
  generalize ff k = f
  generalize ot k = o
  apply Bits.ext; intro i hi
  simp (disch := omega) only [BitVec.getLsbD_and, putI_bit, getI_bit]
  rcases lt64 i hi with rfl | rfl | rfl | rfl | rfl | rfl | rfl | rfl | rfl | rfl | rfl | rfl | rfl | rfl | rfl | rfl | rfl | rfl | rfl | rfl | rfl | rfl | rfl | rfl | rfl | rfl | rfl | rfl | rfl | rfl | rfl | rfl | rfl | rfl | rfl | rfl | rfl | rfl | rfl | rfl | rfl | rfl | rfl | rfl | rfl | rfl | rfl | rfl | rfl | rfl | rfl | rfl | rfl | rfl | rfl | rfl | rfl | rfl | rfl | rfl | rfl | rfl | rfl | rfl <;> simp
set_option maxHeartbeats 4000000 in
theorem fixed_bits_B (k : Nat) (rd rs1 rs2 imm : BitVec 64) (hs : sh k = 66) : word_B k rd rs1 rs2 imm &&& fmk k = fwk k := by
  obtain ⟨h1, h2⟩ := fix_B k hs
  rw [h1, h2]
  unfold word_B
  generalize cd k = c
  generalize ff k = f
  generalize ot k = o
  apply Bits.ext; intro i hi
  simp (disch := omega) only [BitVec.getLsbD_and, putI_bit, getI_bit]
  rcases lt64 i hi with rfl | rfl | rfl | rfl | rfl | rfl | rfl | rfl | rfl | rfl | rfl | rfl | rfl | rfl | rfl | rfl | rfl | rfl | rfl | rfl | rfl | rfl | rfl | rfl | rfl | rfl | rfl | rfl | rfl | rfl | rfl | rfl | rfl | rfl | rfl | rfl | rfl | rfl | rfl | rfl | rfl | rfl | rfl | rfl | rfl | rfl | rfl | rfl | rfl | rfl | rfl | rfl | rfl | rfl | rfl | rfl | rfl | rfl | rfl | rfl | rfl | rfl | rfl | rfl <;> simp
set_option maxHeartbeats 4000000 in
theorem fixed_bits_U (k : Nat) (rd rs1 rs2 imm : BitVec 64) (hs : sh k = 85) : word_U k rd rs1 rs2 imm &&& fmk k = fwk k := by
  obtain ⟨h1, h2⟩ := fix_U k hs
  rw [h1, h2]
  unfold word_U
  generalize cd k = c
  generalize ff k = f
  generalize ot k = o
  apply Bits.ext; intro i hi
  simp (disch := omega) only [BitVec.getLsbD_and, putI_bit, getI_bit]
  rcases lt64 i hi with rfl | rfl | rfl | rfl | rfl | rfl | rfl | rfl | rfl | rfl | rfl | rfl | rfl | rfl | rfl | rfl | rfl | rfl | rfl | rfl | rfl | rfl | rfl | rfl | rfl | rfl | rfl | rfl | rfl | rfl | rfl | rfl | rfl | rfl | rfl | rfl | rfl | rfl | rfl | rfl | rfl | rfl | rfl | rfl | rfl | rfl | rfl | rfl | rfl | rfl | rfl | rfl | rfl | rfl | rfl | rfl | rfl | rfl | rfl | rfl | rfl | rfl | rfl | rfl <;> simp
set_option maxHeartbeats 4000000 in
theorem fixed_bits_J (k : Nat) (rd rs1 rs2 imm : BitVec 64) (hs : sh k = 74) : word_J k rd rs1 rs2 imm &&& fmk k = fwk k := by
  obtain ⟨h1, h2⟩ := fix_J k hs
  rw [h1, h2]
  unfold word_J
  generalize cd k = c
  generalize ff k = f
  generalize ot k = o
  apply Bits.ext; intro i hi
  simp (disch := omega) only [BitVec.getLsbD_and, putI_bit, getI_bit]
  rcases lt64 i hi with rfl | rfl | rfl | rfl | rfl | rfl | rfl | rfl | rfl | rfl | rfl | rfl | rfl | rfl | rfl | rfl | rfl | rfl | rfl | rfl | rfl | rfl | rfl | rfl | rfl | rfl | rfl | rfl | rfl | rfl | rfl | rfl | rfl | rfl | rfl | rfl | rfl | rfl | rfl | rfl | rfl | rfl | rfl | rfl | rfl | rfl | rfl | rfl | rfl | rfl | rfl | rfl | rfl | rfl | rfl | rfl | rfl | rfl | rfl | rfl | rfl | rfl | rfl | rfl <;> simp
set_option maxHeartbeats 4000000 in
theorem fixed_bits_N (k : Nat) (rd rs1 rs2 imm : BitVec 64) (hs : sh k = 78) : word_N k rd rs1 rs2 imm &&& fmk k = fwk k := by
  obtain ⟨h1, h2⟩ := fix_N k hs
  rw [h1, h2]
  unfold word_N
  generalize cd k = c
  generalize ff k = f
  generalize ot k = o
  apply Bits.ext; intro i hi
  simp (disch := omega) only [BitVec.getLsbD_and, putI_bit, getI_bit]
  rcases lt64 i hi with rfl | rfl | rfl | rfl | rfl | rfl | rfl | rfl | rfl | rfl | rfl | rfl | rfl | rfl | rfl | rfl | rfl | rfl | rfl | rfl | rfl | rfl | rfl | rfl | rfl | rfl | rfl | rfl | rfl | rfl | rfl | rfl | rfl | rfl | rfl | rfl | rfl | rfl | rfl | rfl | rfl | rfl | rfl | rfl | rfl | rfl | rfl | rfl | rfl | rfl | rfl | rfl | rfl | rfl | rfl | rfl | rfl | rfl | rfl | rfl | rfl | rfl | rfl | rfl <;> simp
end Go.Proofs.Ytpmpibcfmejbfaa.Inst
