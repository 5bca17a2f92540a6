/- When two instructions are the same, as the program compares them. No condition. -/
import Derived.Test.YtpmpibcfmejbfaaInstOneC
import Derived.Test.YtpmpibcfmejbfaaKEq
namespace Go.Proofs.Ytpmpibcfmejbfaa.Inst
open Go.RowKit Go.Proofs.Ytpmpibcfmejbfaa.Bits Go.Proofs.Ytpmpibcfmejbfaa.KEq
theorem eqA36 (d : Nat) (w : World) (x0 y0 x1 y1 x2 y2 x3 y3 x4 y4 : Int) :
    (Op.equalIn (d + 2) 36 (.agg #[.int .i64 x0, .int .i64 x1, .int .i64 x2, .int .i64 x3, .int .i64 x4]) (.agg #[.int .i64 y0, .int .i64 y1, .int .i64 y2, .int .i64 y3, .int .i64 y4])).run Try.prog w = .ok (x0 == y0 && (x1 == y1 && (x2 == y2 && (x3 == y3 && (x4 == y4))))) w := by
  refine eqA_of Try.underlying36 (by kernel_rfl) ?_
  refine eqf_cons (by rfl) (by go_simp; rfl) (by go_simp; rfl) (by go_simp) ?_
  refine eqf_cons (by rfl) (by go_simp; rfl) (by go_simp; rfl) (by go_simp) ?_
  refine eqf_cons (by rfl) (by go_simp; rfl) (by go_simp; rfl) (by go_simp) ?_
  refine eqf_cons (by rfl) (by go_simp; rfl) (by go_simp; rfl) (by go_simp) ?_
  exact eqf_last (by rfl) (by go_simp; rfl) (by go_simp; rfl) (by go_simp)
def sameB (x0 x1 x2 x3 x4 y0 y1 y2 y3 y4 : Int) : Bool := x0 == y0 && (x1 == y1 && (x2 == y2 && (x3 == y3 && (x4 == y4))))
theorem agg_eql (X Y : Operand) (w : World) (x0 x1 x2 x3 x4 y0 y1 y2 y3 y4 : Int) :
    (Canon.opS .eql 36 X Y (.agg #[.int .i64 x0, .int .i64 x1, .int .i64 x2, .int .i64 x3, .int .i64 x4]) (.agg #[.int .i64 y0, .int .i64 y1, .int .i64 y2, .int .i64 y3, .int .i64 y4])).run Try.prog w = .ok (.value (.bool (sameB x0 x1 x2 x3 x4 y0 y1 y2 y3 y4))) w := by
  have h := eqA36 9998 w x0 y0 x1 y1 x2 y2 x3 y3 x4 y4
  have g : (eqGuard .eql 36 X Y (.agg #[.int .i64 x0, .int .i64 x1, .int .i64 x2, .int .i64 x3, .int .i64 x4]) (.agg #[.int .i64 y0, .int .i64 y1, .int .i64 y2, .int .i64 y3, .int .i64 y4])).run Try.prog w = .ok () w := by kernel_rfl
  unfold Canon.opS
  simp only [Sem.run_bind, g, Result.andThen_ok, binOp, Op.equal, Op.maxDepth, h, sameB]
  rfl
theorem agg_neq (X Y : Operand) (w : World) (x0 x1 x2 x3 x4 y0 y1 y2 y3 y4 : Int) :
    (Canon.opS .neq 36 X Y (.agg #[.int .i64 x0, .int .i64 x1, .int .i64 x2, .int .i64 x3, .int .i64 x4]) (.agg #[.int .i64 y0, .int .i64 y1, .int .i64 y2, .int .i64 y3, .int .i64 y4])).run Try.prog w = .ok (.value (.bool (!(sameB x0 x1 x2 x3 x4 y0 y1 y2 y3 y4)))) w := by
  have h := eqA36 9998 w x0 y0 x1 y1 x2 y2 x3 y3 x4 y4
  have g : (eqGuard .neq 36 X Y (.agg #[.int .i64 x0, .int .i64 x1, .int .i64 x2, .int .i64 x3, .int .i64 x4]) (.agg #[.int .i64 y0, .int .i64 y1, .int .i64 y2, .int .i64 y3, .int .i64 y4])).run Try.prog w = .ok () w := by kernel_rfl
  unfold Canon.opS
  simp only [Sem.run_bind, g, Result.andThen_ok, binOp, Op.equal, Op.maxDepth, h, sameB]
  rfl
end Go.Proofs.Ytpmpibcfmejbfaa.Inst
