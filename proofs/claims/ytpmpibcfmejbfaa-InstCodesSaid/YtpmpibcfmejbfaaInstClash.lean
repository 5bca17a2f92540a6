/- No word is of two lines of the table. No program in sight. -/
import Derived.Test.YtpmpibcfmejbfaaInstWord0
namespace Go.Proofs.Ytpmpibcfmejbfaa.Inst
open Go.RowKit Go.Proofs.Ytpmpibcfmejbfaa.Bits
set_option linter.unusedVariables false
set_option maxRecDepth 100000 in
theorem clash (k : Nat) (hk : k < 69) : ∀ j, j < 69 → j ≠ k → ((fwk k &&& fmk j) == (fwk j &&& fmk k)) = false := by
  revert k
  decide +kernel
theorem decN_at (x : BitVec 64) (k : Nat) (hk : k < 69) (h : x &&& fmk k = fwk k) : decN x = some k := by
  unfold decN
  rw [List.find?_range_eq_some]
  refine ⟨by rw [h]; exact beq_self_eq_true _, List.mem_range.2 hk, fun j hj => ?_⟩
  cases e : (x &&& fmk j == fwk j) with
  | false => rfl
  | true =>
    have e2 := eq_of_beq e
    have c := clash k hk j (by omega) (by omega)
    rw [← h, ← e2, BitVec.and_assoc, BitVec.and_assoc, BitVec.and_comm (fmk j), beq_self_eq_true] at c
    exact absurd c (by decide)
theorem decN_some {x : BitVec 64} {k : Nat} (h : decN x = some k) : k < 69 ∧ x &&& fmk k = fwk k := by
  unfold decN at h
  rw [List.find?_range_eq_some] at h
  exact ⟨List.mem_range.1 h.2.1, eq_of_beq h.1⟩
theorem fmk_low (k : Nat) (hk : k < 69) : 4294967295#64 &&& fmk k = fmk k := by
  revert k
  decide +kernel
theorem fixed_bits (k : Nat) (hk : k < 69) (rd rs1 rs2 imm : BitVec 64) : (wordK k rd rs1 rs2 imm &&& 4294967295#64) &&& fmk k = fwk k := by
  rw [BitVec.and_assoc, fmk_low k hk]
  unfold wordK
  rcases shapes k hk with hs | hs | hs | hs | hs | hs | hs | hs | hs | hs <;> simp only [hs]
  · exact fixed_bits_R k rd rs1 rs2 imm hs
  · exact fixed_bits_G k rd rs1 rs2 imm hs
  · exact fixed_bits_I k rd rs1 rs2 imm hs
  · exact fixed_bits_C k rd rs1 rs2 imm hs
  · exact fixed_bits_H k rd rs1 rs2 imm hs
  · exact fixed_bits_S k rd rs1 rs2 imm hs
  · exact fixed_bits_B k rd rs1 rs2 imm hs
  · exact fixed_bits_U k rd rs1 rs2 imm hs
  · exact fixed_bits_J k rd rs1 rs2 imm hs
  · exact fixed_bits_N k rd rs1 rs2 imm hs
theorem decN_word (k : Nat) (hk : k < 69) (rd rs1 rs2 imm : BitVec 64) : decN (wordK k rd rs1 rs2 imm &&& 4294967295#64) = some k :=
  decN_at _ k hk (fixed_bits k hk rd rs1 rs2 imm)
end Go.Proofs.Ytpmpibcfmejbfaa.Inst
