/- Another register, or another number that fits, changes just its own bits of a word: the statement's function answers true. No condition but that the arguments are of their types. -/
import Derived.Test.YtpmpibcfmejbfaaInstFieldsS
import Derived.Test.YtpmpibcfmejbfaaInstArgs
namespace Go.Proofs.Ytpmpibcfmejbfaa.InstFieldsW
open Go.RowKit Go.Proofs.Ytpmpibcfmejbfaa.Bits Go.Proofs.Ytpmpibcfmejbfaa.Inst Go.Proofs.Ytpmpibcfmejbfaa.Opens Go.Proofs.Ytpmpibcfmejbfaa.InstArgs
theorem walk (W : World) (base : Nat) (v0 v1 : Value) (o0 : Value.okWide Try.prog W .any base 36 v0) (o1 : Value.okWide Try.prog W .any base 36 v1) :
    Calls Try.prog 9 #[v0, v1] W fun e W' => e = .returned (.bool true) ∧ Below W.heap.size W W' := by
  obtain ⟨op, rd, rs1, rs2, imm, rfl⟩ := inst_of o0
  obtain ⟨jo, jd, j1, j2, jm, rfl⟩ := inst_of o1
  have all : Calls Try.prog 9 #[.agg #[.int .i64 (s op), .int .i64 (s rd), .int .i64 (s rs1), .int .i64 (s rs2), .int .i64 (s imm)], .agg #[.int .i64 (s jo), .int .i64 (s jd), .int .i64 (s j1), .int .i64 (s j2), .int .i64 (s jm)]] W fun e W' => e = .returned (.bool true) ∧ Kw.Mem [] W W' [] := by
    by_cases h : s op < 1 ∨ 69 < s op
    · exact fields_out (s op) h rd rs1 rs2 imm jo jd j1 j2 jm W
    · have hz : s op = (((s op - 1).toNat + 1 : Nat) : Int) := by omega
      have hb := fields_in (s op - 1).toNat (by omega) rd rs1 rs2 imm jo jd j1 j2 jm W
      rw [← hz] at hb
      exact hb
  exact all.mono fun e W' ⟨he, hd⟩ => ⟨he, Kw.mem_below hd⟩
end Go.Proofs.Ytpmpibcfmejbfaa.InstFieldsW
