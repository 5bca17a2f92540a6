/- Any instruction has the document's word, or none; any word is its instruction, or none: the statement's function answers true. No condition but that the arguments are of their types. -/
import Derived.Test.YtpmpibcfmejbfaaInstCodesS
import Derived.Test.YtpmpibcfmejbfaaInstArgs
namespace Go.Proofs.Ytpmpibcfmejbfaa.InstCodesW
open Go.RowKit Go.Proofs.Ytpmpibcfmejbfaa.Bits Go.Proofs.Ytpmpibcfmejbfaa.Inst Go.Proofs.Ytpmpibcfmejbfaa.Opens Go.Proofs.Ytpmpibcfmejbfaa.InstArgs
theorem walk (W : World) (base : Nat) (v0 v1 : Value) (o0 : Value.okWide Try.prog W .any base 36 v0) (o1 : Value.okWide Try.prog W .any base 37 v1) :
    Calls Try.prog 8 #[v0, v1] W fun e W' => e = .returned (.bool true) ∧ Below W.heap.size W W' := by
  obtain ⟨op, rd, rs1, rs2, imm, rfl⟩ := inst_of o0
  obtain ⟨n1, rfl, h1⟩ := val_int Try.underlying37 o1
  obtain ⟨x, rfl, xx⟩ := u32_of h1
  have all : Calls Try.prog 8 #[.agg #[.int .i64 (s op), .int .i64 (s rd), .int .i64 (s rs1), .int .i64 (s rs2), .int .i64 (s imm)], .int .u32 (u x)] W fun e W' => e = .returned (.bool true) ∧ Kw.Mem [] W W' [] := by
    by_cases h : s op < 1 ∨ 69 < s op
    · exact codes_out (s op) h rd rs1 rs2 imm x xx W
    · have hz : s op = (((s op - 1).toNat + 1 : Nat) : Int) := by omega
      have hb := codes_in (s op - 1).toNat (by omega) rd rs1 rs2 imm x xx W
      rw [← hz] at hb
      exact hb
  exact all.mono fun e W' ⟨he, hd⟩ => ⟨he, Kw.mem_below hd⟩
end Go.Proofs.Ytpmpibcfmejbfaa.InstCodesW
