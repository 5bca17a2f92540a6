/- The arguments of the statements about instructions: words below 2^32, and instructions, by bit vectors. No condition. -/
import Derived.Test.YtpmpibcfmejbfaaKOpen
import Derived.Test.YtpmpibcfmejbfaaProg
namespace Go.Proofs.Ytpmpibcfmejbfaa.InstArgs
open Go.RowKit Go.Proofs.Ytpmpibcfmejbfaa.Bits Go.Proofs.Ytpmpibcfmejbfaa.Opens
theorem u32_of {n : Int} (h : (Lit.int .u32 n).wf = true) : ∃ x : BitVec 64, n = u x ∧ ∀ i, 32 ≤ i → i < 64 → x.getLsbD i = false := by
  have hn : 0 ≤ n ∧ n < 4294967296 := by
    have hmin : IntKind.u32.min = 0 := rfl
    have hmax : IntKind.u32.max = 4294967295 := rfl
    simp only [Lit.wf, Bool.and_eq_true, decide_eq_true_eq] at h
    omega
  have e : (BitVec.ofNat 64 n.toNat).toNat = n.toNat := by rw [BitVec.toNat_ofNat]; omega
  refine ⟨BitVec.ofNat 64 n.toNat, ?_, fun i h1 h2 => ?_⟩
  · show n = ((BitVec.ofNat 64 n.toNat).toNat : Int)
    rw [e]; omega
  · show (BitVec.ofNat 64 n.toNat).toNat.testBit i = false
    rw [e]
    exact Nat.testBit_lt_two_pow (Nat.lt_of_lt_of_le (show n.toNat < 2 ^ 32 by omega) (Nat.pow_le_pow_right (by omega) h1))
theorem inst_of {W : World} {r : Reach} {b : Nat} {v : Value} (h : Value.okWide Try.prog W r b 36 v) :
    ∃ op rd rs1 rs2 imm : BitVec 64, v = .agg #[.int .i64 (s op), .int .i64 (s rd), .int .i64 (s rs1), .int .i64 (s rs2), .int .i64 (s imm)] := by
  obtain ⟨cs, rfl, hsz, hall⟩ := val_cells (n := 5) (ts := [3, 3, 3, 3, 2]) (.inl ⟨_, Try.underlying36⟩) (by kernel_rfl) (by kernel_rfl) h
  obtain ⟨c0, c1, c2, c3, c4, rfl⟩ := arr5 hsz
  obtain ⟨e0, he0, ho0⟩ := hall 0 c0 rfl; cases he0
  obtain ⟨e1, he1, ho1⟩ := hall 1 c1 rfl; cases he1
  obtain ⟨e2, he2, ho2⟩ := hall 2 c2 rfl; cases he2
  obtain ⟨e3, he3, ho3⟩ := hall 3 c3 rfl; cases he3
  obtain ⟨e4, he4, ho4⟩ := hall 4 c4 rfl; cases he4
  obtain ⟨x0, rfl⟩ := cell_i64 Try.underlying3 ho0
  obtain ⟨x1, rfl⟩ := cell_i64 Try.underlying3 ho1
  obtain ⟨x2, rfl⟩ := cell_i64 Try.underlying3 ho2
  obtain ⟨x3, rfl⟩ := cell_i64 Try.underlying3 ho3
  obtain ⟨x4, rfl⟩ := cell_i64 Try.underlying2 ho4
  exact ⟨x0, x1, x2, x3, x4, rfl⟩
end Go.Proofs.Ytpmpibcfmejbfaa.InstArgs
