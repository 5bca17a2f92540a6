/- One instruction that is decoded: what the program's function answers. No condition. -/
import Derived.Test.YtpmpibcfmejbfaaInstLaw
import Derived.Test.YtpmpibcfmejbfaaInstDec
import Derived.Test.YtpmpibcfmejbfaaKS
namespace Go.Proofs.Ytpmpibcfmejbfaa.Inst
open Go.RowKit Go.Proofs.Ytpmpibcfmejbfaa.Bits
attribute [local irreducible] Go.wpList
set_option linter.unusedVariables false
theorem decV_at (x : BitVec 64) (k : Nat) (hk : k < 69) (h : decN x = some k) : decV x = .tuple #[.agg #[.int .i64 ((k + 1 : Nat) : Int), .int .i64 (s (rdK k x)), .int .i64 (s (rs1K k x)), .int .i64 (s (rs2K k x)), .int .i64 (s (immK k x))], .bool true] := by
  unfold decV
  rw [h, ← decC_eq k hk x]
theorem one_val : decV 11863347#64 = .tuple #[.agg #[.int .i64 31, .int .i64 10, .int .i64 10, .int .i64 11, .int .i64 0], .bool true] := by
  rw [decV_at 11863347#64 30 (by omega) (decN_at _ 30 (by omega) (by decide +kernel))]
  have e1 : s (rdK 30 11863347#64) = 10 := by decide +kernel
  have e2 : s (rs1K 30 11863347#64) = 10 := by decide +kernel
  have e3 : s (rs2K 30 11863347#64) = 11 := by decide +kernel
  have e4 : s (immK 30 11863347#64) = 0 := by decide +kernel
  rw [e1, e2, e3, e4]; rfl
theorem one_dec (W : World) : Calls Try.prog 27 #[.int .u32 11863347] W fun e W' => e = .returned (.tuple #[.agg #[.int .i64 31, .int .i64 10, .int .i64 10, .int .i64 11, .int .i64 0], .bool true]) ∧ Kw.Mem [] W W' [] := by
  have h := decode_c 11863347#64 W
  rw [one_val] at h
  exact h
theorem one_c (W : World) : Calls Try.prog 29 #[] W fun e W' => e = .returned (.bool true) ∧ Kw.Mem [] W W' [] := by
  refine calls_of_wp Try.func29 rfl ?_
  have M0 : Kw.Mem [] W W [] := Kw.Mem.start _ _
  refine Kw.to (b := ⟨#[undef, undef, undef, undef, undef, undef, undef, undef, undef, undef, undef, undef, undef], []⟩) (by kernel_rfl) ?_
  refine wp_seq (Kw.region ?_)
  refine KS.p (.bool false) ?_
  refine KS.n4 ?_
  refine KS.c (.tuple #[.agg #[.int .i64 31, .int .i64 10, .int .i64 10, .int .i64 11, .int .i64 0], .bool true]) 27 #[.int .u32 11863347] M0 (one_dec W) fun w1 M1 => ?_
  refine KS.p (.tuple #[.agg #[.int .i64 31, .int .i64 10, .int .i64 10, .int .i64 11, .int .i64 0], .bool true]) ?_
  refine KS.p (.agg #[.int .i64 31, .int .i64 10, .int .i64 10, .int .i64 11, .int .i64 0]) ?_
  refine KS.p (.bool true) ?_
  refine Kw.alloc #[.int .i64 0, .int .i64 0, .int .i64 0, .int .i64 0, .int .i64 0] 36 M1 (by kernel_rfl) (by kernel_rfl) fun w2 B2 M2 => ?_
  refine Kw.storeAll 0 36 #[.int .i64 31, .int .i64 10, .int .i64 10, .int .i64 11, .int .i64 0] M2 rfl (by kernel_rfl) (by kernel_rfl) (by kernel_rfl) (by kernel_rfl) (by kernel_rfl) fun w3 M3 => ?_
  refine KS.p (.bool true) ?_
  refine KS.n4 ?_
  refine KS.p (.bool true) ?_
  refine KS.p (.bool true) ?_
  refine KS.la 36 B2 _ M3 0 Try.underlying36 ?_
  refine KS.p (.agg #[.int .i64 31, .int .i64 10, .int .i64 10, .int .i64 11, .int .i64 0]) ?_
  refine KS.s (Canon.opS .eql 36 (.tmp 9) (.tmp 10) (.agg #[.int .i64 31, .int .i64 10, .int .i64 10, .int .i64 11, .int .i64 0]) (.agg #[.int .i64 31, .int .i64 10, .int .i64 10, .int .i64 11, .int .i64 0])) (.bool true) (by kernel_rfl) ?_
  refine KS.p (.bool true) ?_
  refine KS.p (.bool true) ?_
  refine Kw.fin (Kw.then_normal (wp_ret ?_))
  exact bodyPost_ret (v := .bool true) (by kernel_rfl) (by kernel_rfl) ⟨rfl, M3.drop⟩
end Go.Proofs.Ytpmpibcfmejbfaa.Inst
