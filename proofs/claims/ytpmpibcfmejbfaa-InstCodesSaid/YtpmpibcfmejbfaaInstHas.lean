/- Which registers an instruction of each shape has: what the program's function answers. No condition. -/
import Derived.Test.YtpmpibcfmejbfaaInstLaid
import Derived.Test.YtpmpibcfmejbfaaInstLay
import Derived.Test.YtpmpibcfmejbfaaInstFixed
import Derived.Test.YtpmpibcfmejbfaaInstName
import Derived.Test.YtpmpibcfmejbfaaKS
namespace Go.Proofs.Ytpmpibcfmejbfaa.Inst
open Go.RowKit Go.Proofs.Ytpmpibcfmejbfaa.Bits
attribute [local irreducible] Go.wpList
set_option linter.unusedVariables false
set_option maxRecDepth 100000 in
theorem has_R (W : World) : Calls Try.prog 45 #[.int .u8 82] W fun e W' => e = .returned (.tuple #[.bool true, .bool true, .bool true]) ∧ Kw.Mem [] W W' [] := by
  refine calls_of_wp Try.func45 rfl ?_
  have M0 : Kw.Mem [] W W [] := Kw.Mem.start _ _
  refine Kw.to (b := ⟨#[.int .u8 82, undef, undef, undef, undef, undef, undef, undef, undef, undef, undef, undef, undef, undef, undef, undef, undef, undef, undef], []⟩) (by kernel_rfl) ?_
  refine wp_seq (Kw.region ?_)
  refine KS.p (.bool false) ?_
  refine KS.p (.bool false) ?_
  refine KS.p (.bool false) ?_
  refine KS.n5 ?_
  refine KS.p (.int .u8 82) ?_
  refine Kw.fin (Kw.then_normal (wp_block (wp_seq (Kw.region ?_))))
  refine KS.p (.bool true) ?_
  refine KS.p (.bool true) ?_
  refine KS.n2 ?_
  refine wp_cond_true (by kernel_rfl) ?_
  refine wp_seq (Kw.region ?_)
  refine KS.p (.bool true) ?_
  refine KS.p (.bool true) ?_
  refine KS.p (.bool true) ?_
  refine Kw.fin (Kw.then_normal (wp_ret (Kw.block_ret (Kw.then_ret ?_))))
  exact bodyPost_ret (v := .tuple #[.bool true, .bool true, .bool true]) (by kernel_rfl) (by kernel_rfl) ⟨rfl, M0.drop⟩
set_option maxRecDepth 100000 in
theorem has_G (W : World) : Calls Try.prog 45 #[.int .u8 71] W fun e W' => e = .returned (.tuple #[.bool true, .bool true, .bool false]) ∧ Kw.Mem [] W W' [] := by
  refine calls_of_wp Try.func45 rfl ?_
  have M0 : Kw.Mem [] W W [] := Kw.Mem.start _ _
  refine Kw.to (b := ⟨#[.int .u8 71, undef, undef, undef, undef, undef, undef, undef, undef, undef, undef, undef, undef, undef, undef, undef, undef, undef, undef], []⟩) (by kernel_rfl) ?_
  refine wp_seq (Kw.region ?_)
  refine KS.p (.bool false) ?_
  refine KS.p (.bool false) ?_
  refine KS.p (.bool false) ?_
  refine KS.n5 ?_
  refine KS.p (.int .u8 71) ?_
  refine Kw.fin (Kw.then_normal (wp_block (wp_seq (Kw.region ?_))))
  refine KS.p (.bool false) ?_
  refine KS.p (.bool false) ?_
  refine KS.n2 ?_
  refine wp_cond_false (by kernel_rfl) ?_
  refine wp_seq (wp_seq (Kw.region ?_))
  refine KS.p (.bool true) ?_
  refine KS.p (.bool true) ?_
  refine KS.n2 ?_
  refine wp_cond_true (by kernel_rfl) ?_
  refine wp_skip (Kw.then_normal ?_)
  refine wp_cond_true (by kernel_rfl) ?_
  refine wp_seq (Kw.region ?_)
  refine KS.p (.bool true) ?_
  refine KS.p (.bool true) ?_
  refine KS.p (.bool false) ?_
  refine Kw.fin (Kw.then_normal (wp_ret (Kw.block_ret (Kw.then_ret ?_))))
  exact bodyPost_ret (v := .tuple #[.bool true, .bool true, .bool false]) (by kernel_rfl) (by kernel_rfl) ⟨rfl, M0.drop⟩
set_option maxRecDepth 100000 in
theorem has_I (W : World) : Calls Try.prog 45 #[.int .u8 73] W fun e W' => e = .returned (.tuple #[.bool true, .bool true, .bool false]) ∧ Kw.Mem [] W W' [] := by
  refine calls_of_wp Try.func45 rfl ?_
  have M0 : Kw.Mem [] W W [] := Kw.Mem.start _ _
  refine Kw.to (b := ⟨#[.int .u8 73, undef, undef, undef, undef, undef, undef, undef, undef, undef, undef, undef, undef, undef, undef, undef, undef, undef, undef], []⟩) (by kernel_rfl) ?_
  refine wp_seq (Kw.region ?_)
  refine KS.p (.bool false) ?_
  refine KS.p (.bool false) ?_
  refine KS.p (.bool false) ?_
  refine KS.n5 ?_
  refine KS.p (.int .u8 73) ?_
  refine Kw.fin (Kw.then_normal (wp_block (wp_seq (Kw.region ?_))))
  refine KS.p (.bool false) ?_
  refine KS.p (.bool false) ?_
  refine KS.n2 ?_
  refine wp_cond_false (by kernel_rfl) ?_
  refine wp_seq (wp_seq (Kw.region ?_))
  refine KS.p (.bool false) ?_
  refine KS.p (.bool false) ?_
  refine KS.n2 ?_
  refine wp_cond_false (by kernel_rfl) ?_
  refine wp_seq (Kw.region ?_)
  refine KS.p (.bool true) ?_
  refine KS.p (.bool true) ?_
  refine KS.n2 ?_
  refine wp_cond_true (by kernel_rfl) ?_
  refine wp_skip (Kw.then_normal ?_)
  refine wp_cond_true (by kernel_rfl) ?_
  refine wp_seq (Kw.region ?_)
  refine KS.p (.bool true) ?_
  refine KS.p (.bool true) ?_
  refine KS.p (.bool false) ?_
  refine Kw.fin (Kw.then_normal (wp_ret (Kw.block_ret (Kw.then_ret ?_))))
  exact bodyPost_ret (v := .tuple #[.bool true, .bool true, .bool false]) (by kernel_rfl) (by kernel_rfl) ⟨rfl, M0.drop⟩
set_option maxRecDepth 100000 in
theorem has_C (W : World) : Calls Try.prog 45 #[.int .u8 67] W fun e W' => e = .returned (.tuple #[.bool true, .bool true, .bool false]) ∧ Kw.Mem [] W W' [] := by
  refine calls_of_wp Try.func45 rfl ?_
  have M0 : Kw.Mem [] W W [] := Kw.Mem.start _ _
  refine Kw.to (b := ⟨#[.int .u8 67, undef, undef, undef, undef, undef, undef, undef, undef, undef, undef, undef, undef, undef, undef, undef, undef, undef, undef], []⟩) (by kernel_rfl) ?_
  refine wp_seq (Kw.region ?_)
  refine KS.p (.bool false) ?_
  refine KS.p (.bool false) ?_
  refine KS.p (.bool false) ?_
  refine KS.n5 ?_
  refine KS.p (.int .u8 67) ?_
  refine Kw.fin (Kw.then_normal (wp_block (wp_seq (Kw.region ?_))))
  refine KS.p (.bool false) ?_
  refine KS.p (.bool false) ?_
  refine KS.n2 ?_
  refine wp_cond_false (by kernel_rfl) ?_
  refine wp_seq (wp_seq (Kw.region ?_))
  refine KS.p (.bool false) ?_
  refine KS.p (.bool false) ?_
  refine KS.n2 ?_
  refine wp_cond_false (by kernel_rfl) ?_
  refine wp_seq (Kw.region ?_)
  refine KS.p (.bool false) ?_
  refine KS.p (.bool false) ?_
  refine KS.n2 ?_
  refine wp_cond_false (by kernel_rfl) ?_
  refine wp_seq (Kw.region ?_)
  refine KS.p (.bool true) ?_
  refine KS.p (.bool true) ?_
  refine KS.n2 ?_
  refine wp_cond_true (by kernel_rfl) ?_
  refine wp_skip (Kw.then_normal ?_)
  refine wp_cond_true (by kernel_rfl) ?_
  refine wp_seq (Kw.region ?_)
  refine KS.p (.bool true) ?_
  refine KS.p (.bool true) ?_
  refine KS.p (.bool false) ?_
  refine Kw.fin (Kw.then_normal (wp_ret (Kw.block_ret (Kw.then_ret ?_))))
  exact bodyPost_ret (v := .tuple #[.bool true, .bool true, .bool false]) (by kernel_rfl) (by kernel_rfl) ⟨rfl, M0.drop⟩
set_option maxRecDepth 100000 in
theorem has_H (W : World) : Calls Try.prog 45 #[.int .u8 72] W fun e W' => e = .returned (.tuple #[.bool true, .bool true, .bool false]) ∧ Kw.Mem [] W W' [] := by
  refine calls_of_wp Try.func45 rfl ?_
  have M0 : Kw.Mem [] W W [] := Kw.Mem.start _ _
  refine Kw.to (b := ⟨#[.int .u8 72, undef, undef, undef, undef, undef, undef, undef, undef, undef, undef, undef, undef, undef, undef, undef, undef, undef, undef], []⟩) (by kernel_rfl) ?_
  refine wp_seq (Kw.region ?_)
  refine KS.p (.bool false) ?_
  refine KS.p (.bool false) ?_
  refine KS.p (.bool false) ?_
  refine KS.n5 ?_
  refine KS.p (.int .u8 72) ?_
  refine Kw.fin (Kw.then_normal (wp_block (wp_seq (Kw.region ?_))))
  refine KS.p (.bool false) ?_
  refine KS.p (.bool false) ?_
  refine KS.n2 ?_
  refine wp_cond_false (by kernel_rfl) ?_
  refine wp_seq (wp_seq (Kw.region ?_))
  refine KS.p (.bool false) ?_
  refine KS.p (.bool false) ?_
  refine KS.n2 ?_
  refine wp_cond_false (by kernel_rfl) ?_
  refine wp_seq (Kw.region ?_)
  refine KS.p (.bool false) ?_
  refine KS.p (.bool false) ?_
  refine KS.n2 ?_
  refine wp_cond_false (by kernel_rfl) ?_
  refine wp_seq (Kw.region ?_)
  refine KS.p (.bool false) ?_
  refine KS.p (.bool false) ?_
  refine KS.n2 ?_
  refine wp_cond_false (by kernel_rfl) ?_
  refine Kw.region ?_
  refine KS.p (.bool true) ?_
  refine KS.p (.bool true) ?_
  refine KS.n2 ?_
  refine wp_cond_true (by kernel_rfl) ?_
  refine wp_seq (Kw.region ?_)
  refine KS.p (.bool true) ?_
  refine KS.p (.bool true) ?_
  refine KS.p (.bool false) ?_
  refine Kw.fin (Kw.then_normal (wp_ret (Kw.block_ret (Kw.then_ret ?_))))
  exact bodyPost_ret (v := .tuple #[.bool true, .bool true, .bool false]) (by kernel_rfl) (by kernel_rfl) ⟨rfl, M0.drop⟩
set_option maxRecDepth 100000 in
theorem has_S (W : World) : Calls Try.prog 45 #[.int .u8 83] W fun e W' => e = .returned (.tuple #[.bool false, .bool true, .bool true]) ∧ Kw.Mem [] W W' [] := by
  refine calls_of_wp Try.func45 rfl ?_
  have M0 : Kw.Mem [] W W [] := Kw.Mem.start _ _
  refine Kw.to (b := ⟨#[.int .u8 83, undef, undef, undef, undef, undef, undef, undef, undef, undef, undef, undef, undef, undef, undef, undef, undef, undef, undef], []⟩) (by kernel_rfl) ?_
  refine wp_seq (Kw.region ?_)
  refine KS.p (.bool false) ?_
  refine KS.p (.bool false) ?_
  refine KS.p (.bool false) ?_
  refine KS.n5 ?_
  refine KS.p (.int .u8 83) ?_
  refine Kw.fin (Kw.then_normal (wp_block (wp_seq (Kw.region ?_))))
  refine KS.p (.bool false) ?_
  refine KS.p (.bool false) ?_
  refine KS.n2 ?_
  refine wp_cond_false (by kernel_rfl) ?_
  refine wp_seq (wp_seq (Kw.region ?_))
  refine KS.p (.bool false) ?_
  refine KS.p (.bool false) ?_
  refine KS.n2 ?_
  refine wp_cond_false (by kernel_rfl) ?_
  refine wp_seq (Kw.region ?_)
  refine KS.p (.bool false) ?_
  refine KS.p (.bool false) ?_
  refine KS.n2 ?_
  refine wp_cond_false (by kernel_rfl) ?_
  refine wp_seq (Kw.region ?_)
  refine KS.p (.bool false) ?_
  refine KS.p (.bool false) ?_
  refine KS.n2 ?_
  refine wp_cond_false (by kernel_rfl) ?_
  refine Kw.region ?_
  refine KS.p (.bool false) ?_
  refine KS.p (.bool false) ?_
  refine KS.n2 ?_
  refine wp_cond_false (by kernel_rfl) ?_
  refine wp_seq (wp_seq (Kw.region ?_))
  refine KS.p (.bool true) ?_
  refine KS.p (.bool true) ?_
  refine KS.n2 ?_
  refine wp_cond_true (by kernel_rfl) ?_
  refine wp_skip (Kw.then_normal ?_)
  refine wp_cond_true (by kernel_rfl) ?_
  refine wp_seq (Kw.region ?_)
  refine KS.p (.bool false) ?_
  refine KS.p (.bool true) ?_
  refine KS.p (.bool true) ?_
  refine Kw.fin (Kw.then_normal (wp_ret (Kw.block_ret (Kw.then_ret ?_))))
  exact bodyPost_ret (v := .tuple #[.bool false, .bool true, .bool true]) (by kernel_rfl) (by kernel_rfl) ⟨rfl, M0.drop⟩
set_option maxRecDepth 100000 in
theorem has_B (W : World) : Calls Try.prog 45 #[.int .u8 66] W fun e W' => e = .returned (.tuple #[.bool false, .bool true, .bool true]) ∧ Kw.Mem [] W W' [] := by
  refine calls_of_wp Try.func45 rfl ?_
  have M0 : Kw.Mem [] W W [] := Kw.Mem.start _ _
  refine Kw.to (b := ⟨#[.int .u8 66, undef, undef, undef, undef, undef, undef, undef, undef, undef, undef, undef, undef, undef, undef, undef, undef, undef, undef], []⟩) (by kernel_rfl) ?_
  refine wp_seq (Kw.region ?_)
  refine KS.p (.bool false) ?_
  refine KS.p (.bool false) ?_
  refine KS.p (.bool false) ?_
  refine KS.n5 ?_
  refine KS.p (.int .u8 66) ?_
  refine Kw.fin (Kw.then_normal (wp_block (wp_seq (Kw.region ?_))))
  refine KS.p (.bool false) ?_
  refine KS.p (.bool false) ?_
  refine KS.n2 ?_
  refine wp_cond_false (by kernel_rfl) ?_
  refine wp_seq (wp_seq (Kw.region ?_))
  refine KS.p (.bool false) ?_
  refine KS.p (.bool false) ?_
  refine KS.n2 ?_
  refine wp_cond_false (by kernel_rfl) ?_
  refine wp_seq (Kw.region ?_)
  refine KS.p (.bool false) ?_
  refine KS.p (.bool false) ?_
  refine KS.n2 ?_
  refine wp_cond_false (by kernel_rfl) ?_
  refine wp_seq (Kw.region ?_)
  refine KS.p (.bool false) ?_
  refine KS.p (.bool false) ?_
  refine KS.n2 ?_
  refine wp_cond_false (by kernel_rfl) ?_
  refine Kw.region ?_
  refine KS.p (.bool false) ?_
  refine KS.p (.bool false) ?_
  refine KS.n2 ?_
  refine wp_cond_false (by kernel_rfl) ?_
  refine wp_seq (wp_seq (Kw.region ?_))
  refine KS.p (.bool false) ?_
  refine KS.p (.bool false) ?_
  refine KS.n2 ?_
  refine wp_cond_false (by kernel_rfl) ?_
  refine Kw.region ?_
  refine KS.p (.bool true) ?_
  refine KS.p (.bool true) ?_
  refine KS.n2 ?_
  refine wp_cond_true (by kernel_rfl) ?_
  refine wp_seq (Kw.region ?_)
  refine KS.p (.bool false) ?_
  refine KS.p (.bool true) ?_
  refine KS.p (.bool true) ?_
  refine Kw.fin (Kw.then_normal (wp_ret (Kw.block_ret (Kw.then_ret ?_))))
  exact bodyPost_ret (v := .tuple #[.bool false, .bool true, .bool true]) (by kernel_rfl) (by kernel_rfl) ⟨rfl, M0.drop⟩
set_option maxRecDepth 100000 in
theorem has_U (W : World) : Calls Try.prog 45 #[.int .u8 85] W fun e W' => e = .returned (.tuple #[.bool true, .bool false, .bool false]) ∧ Kw.Mem [] W W' [] := by
  refine calls_of_wp Try.func45 rfl ?_
  have M0 : Kw.Mem [] W W [] := Kw.Mem.start _ _
  refine Kw.to (b := ⟨#[.int .u8 85, undef, undef, undef, undef, undef, undef, undef, undef, undef, undef, undef, undef, undef, undef, undef, undef, undef, undef], []⟩) (by kernel_rfl) ?_
  refine wp_seq (Kw.region ?_)
  refine KS.p (.bool false) ?_
  refine KS.p (.bool false) ?_
  refine KS.p (.bool false) ?_
  refine KS.n5 ?_
  refine KS.p (.int .u8 85) ?_
  refine Kw.fin (Kw.then_normal (wp_block (wp_seq (Kw.region ?_))))
  refine KS.p (.bool false) ?_
  refine KS.p (.bool false) ?_
  refine KS.n2 ?_
  refine wp_cond_false (by kernel_rfl) ?_
  refine wp_seq (wp_seq (Kw.region ?_))
  refine KS.p (.bool false) ?_
  refine KS.p (.bool false) ?_
  refine KS.n2 ?_
  refine wp_cond_false (by kernel_rfl) ?_
  refine wp_seq (Kw.region ?_)
  refine KS.p (.bool false) ?_
  refine KS.p (.bool false) ?_
  refine KS.n2 ?_
  refine wp_cond_false (by kernel_rfl) ?_
  refine wp_seq (Kw.region ?_)
  refine KS.p (.bool false) ?_
  refine KS.p (.bool false) ?_
  refine KS.n2 ?_
  refine wp_cond_false (by kernel_rfl) ?_
  refine Kw.region ?_
  refine KS.p (.bool false) ?_
  refine KS.p (.bool false) ?_
  refine KS.n2 ?_
  refine wp_cond_false (by kernel_rfl) ?_
  refine wp_seq (wp_seq (Kw.region ?_))
  refine KS.p (.bool false) ?_
  refine KS.p (.bool false) ?_
  refine KS.n2 ?_
  refine wp_cond_false (by kernel_rfl) ?_
  refine Kw.region ?_
  refine KS.p (.bool false) ?_
  refine KS.p (.bool false) ?_
  refine KS.n2 ?_
  refine wp_cond_false (by kernel_rfl) ?_
  refine wp_seq (wp_seq (Kw.region ?_))
  refine KS.p (.bool true) ?_
  refine KS.p (.bool true) ?_
  refine KS.n2 ?_
  refine wp_cond_true (by kernel_rfl) ?_
  refine wp_skip (Kw.then_normal ?_)
  refine wp_cond_true (by kernel_rfl) ?_
  refine wp_seq (Kw.region ?_)
  refine KS.p (.bool true) ?_
  refine KS.p (.bool false) ?_
  refine KS.p (.bool false) ?_
  refine Kw.fin (Kw.then_normal (wp_ret (Kw.block_ret (Kw.then_ret ?_))))
  exact bodyPost_ret (v := .tuple #[.bool true, .bool false, .bool false]) (by kernel_rfl) (by kernel_rfl) ⟨rfl, M0.drop⟩
set_option maxRecDepth 100000 in
theorem has_J (W : World) : Calls Try.prog 45 #[.int .u8 74] W fun e W' => e = .returned (.tuple #[.bool true, .bool false, .bool false]) ∧ Kw.Mem [] W W' [] := by
  refine calls_of_wp Try.func45 rfl ?_
  have M0 : Kw.Mem [] W W [] := Kw.Mem.start _ _
  refine Kw.to (b := ⟨#[.int .u8 74, undef, undef, undef, undef, undef, undef, undef, undef, undef, undef, undef, undef, undef, undef, undef, undef, undef, undef], []⟩) (by kernel_rfl) ?_
  refine wp_seq (Kw.region ?_)
  refine KS.p (.bool false) ?_
  refine KS.p (.bool false) ?_
  refine KS.p (.bool false) ?_
  refine KS.n5 ?_
  refine KS.p (.int .u8 74) ?_
  refine Kw.fin (Kw.then_normal (wp_block (wp_seq (Kw.region ?_))))
  refine KS.p (.bool false) ?_
  refine KS.p (.bool false) ?_
  refine KS.n2 ?_
  refine wp_cond_false (by kernel_rfl) ?_
  refine wp_seq (wp_seq (Kw.region ?_))
  refine KS.p (.bool false) ?_
  refine KS.p (.bool false) ?_
  refine KS.n2 ?_
  refine wp_cond_false (by kernel_rfl) ?_
  refine wp_seq (Kw.region ?_)
  refine KS.p (.bool false) ?_
  refine KS.p (.bool false) ?_
  refine KS.n2 ?_
  refine wp_cond_false (by kernel_rfl) ?_
  refine wp_seq (Kw.region ?_)
  refine KS.p (.bool false) ?_
  refine KS.p (.bool false) ?_
  refine KS.n2 ?_
  refine wp_cond_false (by kernel_rfl) ?_
  refine Kw.region ?_
  refine KS.p (.bool false) ?_
  refine KS.p (.bool false) ?_
  refine KS.n2 ?_
  refine wp_cond_false (by kernel_rfl) ?_
  refine wp_seq (wp_seq (Kw.region ?_))
  refine KS.p (.bool false) ?_
  refine KS.p (.bool false) ?_
  refine KS.n2 ?_
  refine wp_cond_false (by kernel_rfl) ?_
  refine Kw.region ?_
  refine KS.p (.bool false) ?_
  refine KS.p (.bool false) ?_
  refine KS.n2 ?_
  refine wp_cond_false (by kernel_rfl) ?_
  refine wp_seq (wp_seq (Kw.region ?_))
  refine KS.p (.bool false) ?_
  refine KS.p (.bool false) ?_
  refine KS.n2 ?_
  refine wp_cond_false (by kernel_rfl) ?_
  refine Kw.region ?_
  refine KS.p (.bool true) ?_
  refine KS.p (.bool true) ?_
  refine KS.n2 ?_
  refine wp_cond_true (by kernel_rfl) ?_
  refine wp_seq (Kw.region ?_)
  refine KS.p (.bool true) ?_
  refine KS.p (.bool false) ?_
  refine KS.p (.bool false) ?_
  refine Kw.fin (Kw.then_normal (wp_ret (Kw.block_ret (Kw.then_ret ?_))))
  exact bodyPost_ret (v := .tuple #[.bool true, .bool false, .bool false]) (by kernel_rfl) (by kernel_rfl) ⟨rfl, M0.drop⟩
set_option maxRecDepth 100000 in
theorem has_N (W : World) : Calls Try.prog 45 #[.int .u8 78] W fun e W' => e = .returned (.tuple #[.bool false, .bool false, .bool false]) ∧ Kw.Mem [] W W' [] := by
  refine calls_of_wp Try.func45 rfl ?_
  have M0 : Kw.Mem [] W W [] := Kw.Mem.start _ _
  refine Kw.to (b := ⟨#[.int .u8 78, undef, undef, undef, undef, undef, undef, undef, undef, undef, undef, undef, undef, undef, undef, undef, undef, undef, undef], []⟩) (by kernel_rfl) ?_
  refine wp_seq (Kw.region ?_)
  refine KS.p (.bool false) ?_
  refine KS.p (.bool false) ?_
  refine KS.p (.bool false) ?_
  refine KS.n5 ?_
  refine KS.p (.int .u8 78) ?_
  refine Kw.fin (Kw.then_normal (wp_block (wp_seq (Kw.region ?_))))
  refine KS.p (.bool false) ?_
  refine KS.p (.bool false) ?_
  refine KS.n2 ?_
  refine wp_cond_false (by kernel_rfl) ?_
  refine wp_seq (wp_seq (Kw.region ?_))
  refine KS.p (.bool false) ?_
  refine KS.p (.bool false) ?_
  refine KS.n2 ?_
  refine wp_cond_false (by kernel_rfl) ?_
  refine wp_seq (Kw.region ?_)
  refine KS.p (.bool false) ?_
  refine KS.p (.bool false) ?_
  refine KS.n2 ?_
  refine wp_cond_false (by kernel_rfl) ?_
  refine wp_seq (Kw.region ?_)
  refine KS.p (.bool false) ?_
  refine KS.p (.bool false) ?_
  refine KS.n2 ?_
  refine wp_cond_false (by kernel_rfl) ?_
  refine Kw.region ?_
  refine KS.p (.bool false) ?_
  refine KS.p (.bool false) ?_
  refine KS.n2 ?_
  refine wp_cond_false (by kernel_rfl) ?_
  refine wp_seq (wp_seq (Kw.region ?_))
  refine KS.p (.bool false) ?_
  refine KS.p (.bool false) ?_
  refine KS.n2 ?_
  refine wp_cond_false (by kernel_rfl) ?_
  refine Kw.region ?_
  refine KS.p (.bool false) ?_
  refine KS.p (.bool false) ?_
  refine KS.n2 ?_
  refine wp_cond_false (by kernel_rfl) ?_
  refine wp_seq (wp_seq (Kw.region ?_))
  refine KS.p (.bool false) ?_
  refine KS.p (.bool false) ?_
  refine KS.n2 ?_
  refine wp_cond_false (by kernel_rfl) ?_
  refine Kw.region ?_
  refine KS.p (.bool false) ?_
  refine KS.p (.bool false) ?_
  refine KS.n2 ?_
  refine wp_cond_false (by kernel_rfl) ?_
  refine wp_skip (Kw.block_normal (Kw.then_normal (wp_seq (Kw.region ?_))))
  refine KS.p (.bool false) ?_
  refine KS.p (.bool false) ?_
  refine KS.p (.bool false) ?_
  refine Kw.fin (Kw.then_normal (wp_ret ?_))
  exact bodyPost_ret (v := .tuple #[.bool false, .bool false, .bool false]) (by kernel_rfl) (by kernel_rfl) ⟨rfl, M0.drop⟩
theorem of_sh (c : Int) (k : Nat) (hk : k < 69) (hs : sh k = c) (W : World) : Calls Try.prog 41 #[.int .i64 ((k + 1 : Nat) : Int)] W fun e W' => e = .returned (.tuple #[.agg #[.string (nm k), .int .u8 c, .int .u64 (u (cd k)), .int .u64 (u (ff k)), .int .u64 (u (ot k))], .bool true]) ∧ Kw.Mem [] W W' [] := by
  subst hs; exact of_in k hk W
/-- May the number be in an instruction of this shape? -/
def fitB_I (y : BitVec 64) : Bool := fitsI y 12 true && (u (y &&& maskI 0) == 0)
theorem fit_I (y : BitVec 64) (W : World) {S0 : List Nat} {W0 : World} (B : Nat) (hB : Kw.Mem S0 W0 W [(B, #[.int .i64 0, .int .i64 12, .int .i64 20], 89)]) : Calls Try.prog 43 #[.agg #[.slice (some ⟨B, 0, none⟩) 1 1, .int .i64 12, .bool true, .int .i64 0], .int .i64 (s y)] W fun e W' => e = .returned (.bool (fitB_I y)) ∧ Kw.Mem [] W W' [] := by
  unfold fitB_I
  cases h : fitsI y 12 true
  · exact fits_I0 y W B hB h
  · exact fits_I1 y W B hB h
/-- May the number be in an instruction of this shape? -/
def fitB_C (y : BitVec 64) : Bool := fitsI y 12 false && (u (y &&& maskI 0) == 0)
theorem fit_C (y : BitVec 64) (W : World) {S0 : List Nat} {W0 : World} (B : Nat) (hB : Kw.Mem S0 W0 W [(B, #[.int .i64 0, .int .i64 12, .int .i64 20], 89)]) : Calls Try.prog 43 #[.agg #[.slice (some ⟨B, 0, none⟩) 1 1, .int .i64 12, .bool false, .int .i64 0], .int .i64 (s y)] W fun e W' => e = .returned (.bool (fitB_C y)) ∧ Kw.Mem [] W W' [] := by
  unfold fitB_C
  cases h : fitsI y 12 false
  · exact fits_C0 y W B hB h
  · exact fits_C1 y W B hB h
/-- May the number be in an instruction of this shape? -/
def fitB_H (y : BitVec 64) : Bool := fitsI y 6 false && (u (y &&& maskI 0) == 0)
theorem fit_H (y : BitVec 64) (W : World) {S0 : List Nat} {W0 : World} (B : Nat) (hB : Kw.Mem S0 W0 W [(B, #[.int .i64 0, .int .i64 6, .int .i64 20], 89)]) : Calls Try.prog 43 #[.agg #[.slice (some ⟨B, 0, none⟩) 1 1, .int .i64 6, .bool false, .int .i64 0], .int .i64 (s y)] W fun e W' => e = .returned (.bool (fitB_H y)) ∧ Kw.Mem [] W W' [] := by
  unfold fitB_H
  cases h : fitsI y 6 false
  · exact fits_H0 y W B hB h
  · exact fits_H1 y W B hB h
/-- May the number be in an instruction of this shape? -/
def fitB_S (y : BitVec 64) : Bool := fitsI y 12 true && (u (y &&& maskI 0) == 0)
theorem fit_S (y : BitVec 64) (W : World) {S0 : List Nat} {W0 : World} (B : Nat) (hB : Kw.Mem S0 W0 W [(B, #[.int .i64 0, .int .i64 5, .int .i64 7, .int .i64 5, .int .i64 7, .int .i64 25], 89)]) : Calls Try.prog 43 #[.agg #[.slice (some ⟨B, 0, none⟩) 2 2, .int .i64 12, .bool true, .int .i64 0], .int .i64 (s y)] W fun e W' => e = .returned (.bool (fitB_S y)) ∧ Kw.Mem [] W W' [] := by
  unfold fitB_S
  cases h : fitsI y 12 true
  · exact fits_S0 y W B hB h
  · exact fits_S1 y W B hB h
/-- May the number be in an instruction of this shape? -/
def fitB_B (y : BitVec 64) : Bool := fitsI y 13 true && (u (y &&& maskI 1) == 0)
theorem fit_B (y : BitVec 64) (W : World) {S0 : List Nat} {W0 : World} (B : Nat) (hB : Kw.Mem S0 W0 W [(B, #[.int .i64 1, .int .i64 4, .int .i64 8, .int .i64 5, .int .i64 6, .int .i64 25, .int .i64 11, .int .i64 1, .int .i64 7, .int .i64 12, .int .i64 1, .int .i64 31], 89)]) : Calls Try.prog 43 #[.agg #[.slice (some ⟨B, 0, none⟩) 4 4, .int .i64 13, .bool true, .int .i64 1], .int .i64 (s y)] W fun e W' => e = .returned (.bool (fitB_B y)) ∧ Kw.Mem [] W W' [] := by
  unfold fitB_B
  cases h : fitsI y 13 true
  · exact fits_B0 y W B hB h
  · exact fits_B1 y W B hB h
/-- May the number be in an instruction of this shape? -/
def fitB_U (y : BitVec 64) : Bool := fitsI y 32 true && (u (y &&& maskI 12) == 0)
theorem fit_U (y : BitVec 64) (W : World) {S0 : List Nat} {W0 : World} (B : Nat) (hB : Kw.Mem S0 W0 W [(B, #[.int .i64 12, .int .i64 20, .int .i64 12], 89)]) : Calls Try.prog 43 #[.agg #[.slice (some ⟨B, 0, none⟩) 1 1, .int .i64 32, .bool true, .int .i64 12], .int .i64 (s y)] W fun e W' => e = .returned (.bool (fitB_U y)) ∧ Kw.Mem [] W W' [] := by
  unfold fitB_U
  cases h : fitsI y 32 true
  · exact fits_U0 y W B hB h
  · exact fits_U1 y W B hB h
/-- May the number be in an instruction of this shape? -/
def fitB_J (y : BitVec 64) : Bool := fitsI y 21 true && (u (y &&& maskI 1) == 0)
theorem fit_J (y : BitVec 64) (W : World) {S0 : List Nat} {W0 : World} (B : Nat) (hB : Kw.Mem S0 W0 W [(B, #[.int .i64 12, .int .i64 8, .int .i64 12, .int .i64 11, .int .i64 1, .int .i64 20, .int .i64 1, .int .i64 10, .int .i64 21, .int .i64 20, .int .i64 1, .int .i64 31], 89)]) : Calls Try.prog 43 #[.agg #[.slice (some ⟨B, 0, none⟩) 4 4, .int .i64 21, .bool true, .int .i64 1], .int .i64 (s y)] W fun e W' => e = .returned (.bool (fitB_J y)) ∧ Kw.Mem [] W W' [] := by
  unfold fitB_J
  cases h : fitsI y 21 true
  · exact fits_J0 y W B hB h
  · exact fits_J1 y W B hB h
end Go.Proofs.Ytpmpibcfmejbfaa.Inst
