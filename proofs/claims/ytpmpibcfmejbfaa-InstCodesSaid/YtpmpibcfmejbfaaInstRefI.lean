/- The number in a word by the reference: what its function answers. No condition. -/
import Derived.Test.YtpmpibcfmejbfaaInstRefE
import Derived.Test.YtpmpibcfmejbfaaInstLaw
import Derived.Test.YtpmpibcfmejbfaaKS
namespace Go.Proofs.Ytpmpibcfmejbfaa.Inst
open Go.RowKit Go.Proofs.Ytpmpibcfmejbfaa.Bits
attribute [local irreducible] Go.wpList
set_option linter.unusedVariables false
set_option linter.unusedSimpArgs false
theorem get13_c (x : BitVec 64) (a n : Int) (W : World) : Calls Try.prog 56 #[.int .u32 (u x), .int .i64 a, .int .i64 n] W fun e W' => e = .returned (.int .u64 (u (getI x a n))) ∧ Kw.Mem [] W W' [] := by
  refine calls_of_wp Try.func56 rfl ?_
  have M0 : Kw.Mem [] W W [] := Kw.Mem.start _ _
  refine Kw.to (b := ⟨#[.int .u32 (u x), .int .i64 a, .int .i64 n, undef, undef, undef, undef, undef, undef, undef, undef, undef], []⟩) (by kernel_rfl) ?_
  refine wp_seq (Kw.region ?_)
  refine KS.p (.int .u64 0) ?_
  refine KS.n4 ?_
  refine KS.p (.int .u32 (u x)) ?_
  refine Kw.pure (.int .u64 (u x)) (by kernel_rfl) (Kw.eqv (v := .int .u64 (IntKind.u64.wrap (u x))) (by kernel_rfl) (congrArg (Value.int .u64) (wrap_u x))) ?_
  refine KS.p (.int .i64 a) ?_
  refine KS.p (.int .i64 n) ?_
  refine KS.c (.int .u64 (u (getI x a n))) 40 #[.int .u64 (u x), .int .i64 a, .int .i64 n] M0 (rget_c x a n W) fun w1 M1 => ?_
  refine KS.p (.int .u64 (u (getI x a n))) ?_
  refine Kw.fin (Kw.then_normal (wp_ret ?_))
  exact bodyPost_ret (v := .int .u64 (u (getI x a n))) (by kernel_rfl) (by kernel_rfl) ⟨rfl, M1.drop⟩
theorem signed_c (x : BitVec 64) (n : Int) (W : World) : Calls Try.prog 61 #[.int .u64 (u x), .int .i64 n] W fun e W' => e = .returned (.int .i64 (s (signI x n))) ∧ Kw.Mem [] W W' [] := by
  refine calls_of_wp Try.func61 rfl ?_
  have M0 : Kw.Mem [] W W [] := Kw.Mem.start _ _
  refine Kw.to (b := ⟨#[.int .u64 (u x), .int .i64 n, undef, undef, undef, undef, undef, undef, undef], []⟩) (by kernel_rfl) ?_
  refine wp_seq (Kw.region ?_)
  refine KS.p (.int .i64 0) ?_
  refine KS.n4 ?_
  refine KS.p (.int .u64 (u x)) ?_
  refine KS.p (.int .i64 n) ?_
  refine KS.c (.int .u64 (u (signI x n))) 37 #[.int .u64 (u x), .int .i64 n] M0 (rsign_c x n W) fun w1 M1 => ?_
  refine Kw.pure (.int .i64 (s (signI x n))) (by kernel_rfl) (Kw.eqv (v := .int .i64 (IntKind.i64.wrap (u (signI x n)))) (by kernel_rfl) (congrArg (Value.int .i64) (wrapi_u (signI x n)))) ?_
  refine KS.p (.int .i64 (s (signI x n))) ?_
  refine Kw.fin (Kw.then_normal (wp_ret ?_))
  exact bodyPost_ret (v := .int .i64 (s (signI x n))) (by kernel_rfl) (by kernel_rfl) ⟨rfl, M1.drop⟩
theorem sign_eq {a b : BitVec 64} {n : Int} (h : a = b) : signI a n = signI b n := by rw [h]
theorem imm_law_R (k : Nat) (hs : sh k = 82) (x : BitVec 64) : (0 : Int) = s (immK k x) := by
  rw [immK_R k hs]; rfl
set_option maxRecDepth 100000 in
theorem imm_R (k : Nat) (hs : sh k = 82) (x : BitVec 64) (W : World) : Calls Try.prog 55 #[.int .u32 (u x), .int .u8 82] W fun e W' => e = .returned (.int .i64 (s (immK k x))) ∧ Kw.Mem [] W W' [] := by
  refine calls_of_wp Try.func55 rfl ?_
  have M0 : Kw.Mem [] W W [] := Kw.Mem.start _ _
  refine Kw.to (b := ⟨#[.int .u32 (u x), .int .u8 82, undef, undef, undef, undef, undef, undef, undef, undef, undef, undef, undef, undef, undef, undef, undef, undef, undef, undef, undef, undef, undef, undef, undef, undef, undef, undef, undef, undef, undef, undef, undef, undef, undef, undef, undef, undef, undef, undef, undef, undef, undef, undef, undef, undef, undef, undef, undef, undef, undef, undef, undef, undef, undef, undef, undef, undef, undef, undef, undef, undef, undef, undef, undef, undef, undef, undef, undef, undef, undef, undef], []⟩) (by kernel_rfl) ?_
  refine wp_seq (Kw.region ?_)
  refine KS.p (.int .i64 0) ?_
  refine KS.n5 ?_
  refine KS.p (.int .u8 82) ?_
  refine Kw.fin (Kw.then_normal (wp_block (wp_seq (Kw.region ?_))))
  refine KS.p (.bool false) ?_
  refine KS.p (.bool false) ?_
  refine KS.n2 ?_
  refine wp_cond_false (by kernel_rfl) ?_
  refine wp_seq (Kw.region ?_)
  refine KS.p (.bool false) ?_
  refine KS.p (.bool false) ?_
  refine KS.n2 ?_
  refine wp_cond_false (by kernel_rfl) ?_
  refine wp_seq (Kw.region ?_)
  refine KS.p (.bool false) ?_
  refine KS.p (.bool false) ?_
  refine KS.n2 ?_
  refine wp_cond_false (by kernel_rfl) ?_
  refine wp_seq (Kw.region ?_)
  refine KS.p (.bool false) ?_
  refine KS.p (.bool false) ?_
  refine KS.n2 ?_
  refine wp_cond_false (by kernel_rfl) ?_
  refine wp_seq (Kw.region ?_)
  refine KS.p (.bool false) ?_
  refine KS.p (.bool false) ?_
  refine KS.n2 ?_
  refine wp_cond_false (by kernel_rfl) ?_
  refine wp_seq (Kw.region ?_)
  refine KS.p (.bool false) ?_
  refine KS.p (.bool false) ?_
  refine KS.n2 ?_
  refine wp_cond_false (by kernel_rfl) ?_
  refine wp_seq (Kw.region ?_)
  refine KS.p (.bool false) ?_
  refine KS.p (.bool false) ?_
  refine KS.n2 ?_
  refine wp_cond_false (by kernel_rfl) ?_
  refine wp_skip (Kw.block_normal (Kw.then_normal (wp_seq (Kw.region ?_))))
  refine KS.p (.int .i64 0) ?_
  refine Kw.fin (Kw.then_normal (wp_ret ?_))
  exact bodyPost_ret (v := .int .i64 0) (by kernel_rfl) (by kernel_rfl) ⟨congrArg (fun z => Ending.returned (Value.int .i64 z)) (imm_law_R k hs x), M0.drop⟩
theorem imm_law_G (k : Nat) (hs : sh k = 71) (x : BitVec 64) : (0 : Int) = s (immK k x) := by
  rw [immK_G k hs]; rfl
set_option maxRecDepth 100000 in
theorem imm_G (k : Nat) (hs : sh k = 71) (x : BitVec 64) (W : World) : Calls Try.prog 55 #[.int .u32 (u x), .int .u8 71] W fun e W' => e = .returned (.int .i64 (s (immK k x))) ∧ Kw.Mem [] W W' [] := by
  refine calls_of_wp Try.func55 rfl ?_
  have M0 : Kw.Mem [] W W [] := Kw.Mem.start _ _
  refine Kw.to (b := ⟨#[.int .u32 (u x), .int .u8 71, undef, undef, undef, undef, undef, undef, undef, undef, undef, undef, undef, undef, undef, undef, undef, undef, undef, undef, undef, undef, undef, undef, undef, undef, undef, undef, undef, undef, undef, undef, undef, undef, undef, undef, undef, undef, undef, undef, undef, undef, undef, undef, undef, undef, undef, undef, undef, undef, undef, undef, undef, undef, undef, undef, undef, undef, undef, undef, undef, undef, undef, undef, undef, undef, undef, undef, undef, undef, undef, undef], []⟩) (by kernel_rfl) ?_
  refine wp_seq (Kw.region ?_)
  refine KS.p (.int .i64 0) ?_
  refine KS.n5 ?_
  refine KS.p (.int .u8 71) ?_
  refine Kw.fin (Kw.then_normal (wp_block (wp_seq (Kw.region ?_))))
  refine KS.p (.bool false) ?_
  refine KS.p (.bool false) ?_
  refine KS.n2 ?_
  refine wp_cond_false (by kernel_rfl) ?_
  refine wp_seq (Kw.region ?_)
  refine KS.p (.bool false) ?_
  refine KS.p (.bool false) ?_
  refine KS.n2 ?_
  refine wp_cond_false (by kernel_rfl) ?_
  refine wp_seq (Kw.region ?_)
  refine KS.p (.bool false) ?_
  refine KS.p (.bool false) ?_
  refine KS.n2 ?_
  refine wp_cond_false (by kernel_rfl) ?_
  refine wp_seq (Kw.region ?_)
  refine KS.p (.bool false) ?_
  refine KS.p (.bool false) ?_
  refine KS.n2 ?_
  refine wp_cond_false (by kernel_rfl) ?_
  refine wp_seq (Kw.region ?_)
  refine KS.p (.bool false) ?_
  refine KS.p (.bool false) ?_
  refine KS.n2 ?_
  refine wp_cond_false (by kernel_rfl) ?_
  refine wp_seq (Kw.region ?_)
  refine KS.p (.bool false) ?_
  refine KS.p (.bool false) ?_
  refine KS.n2 ?_
  refine wp_cond_false (by kernel_rfl) ?_
  refine wp_seq (Kw.region ?_)
  refine KS.p (.bool false) ?_
  refine KS.p (.bool false) ?_
  refine KS.n2 ?_
  refine wp_cond_false (by kernel_rfl) ?_
  refine wp_skip (Kw.block_normal (Kw.then_normal (wp_seq (Kw.region ?_))))
  refine KS.p (.int .i64 0) ?_
  refine Kw.fin (Kw.then_normal (wp_ret ?_))
  exact bodyPost_ret (v := .int .i64 0) (by kernel_rfl) (by kernel_rfl) ⟨congrArg (fun z => Ending.returned (Value.int .i64 z)) (imm_law_G k hs x), M0.drop⟩
theorem imm_law_I (k : Nat) (hs : sh k = 73) (x : BitVec 64) : (s (signI (getI x 20 12) 12)) = s (immK k x) := by
  apply congrArg s
  rw [immK_I k hs, put_sum _ _ _ _ (by omega) (fun i h1 h2 => by (repeat (rw [putI_bit _ _ _ _ _ (by omega) (by omega), if_neg (by omega)])); exact BitVec.getLsbD_zero)]
  have g0 := get_mask x 20 12 (by omega)
  simp only [Int.reduceToNat, show mask 1 = 1#64 from by decide, show mask 3 = 7#64 from by decide, show mask 4 = 15#64 from by decide, show mask 5 = 31#64 from by decide, show mask 6 = 63#64 from by decide, show mask 7 = 127#64 from by decide, show mask 8 = 255#64 from by decide, show mask 10 = 1023#64 from by decide, show mask 12 = 4095#64 from by decide, show mask 13 = 8191#64 from by decide, show mask 20 = 1048575#64 from by decide] at *
  simp only [g0, BitVec.zero_add, BitVec.shiftLeft_zero]
set_option maxRecDepth 100000 in
theorem imm_I (k : Nat) (hs : sh k = 73) (x : BitVec 64) (W : World) : Calls Try.prog 55 #[.int .u32 (u x), .int .u8 73] W fun e W' => e = .returned (.int .i64 (s (immK k x))) ∧ Kw.Mem [] W W' [] := by
  refine calls_of_wp Try.func55 rfl ?_
  have M0 : Kw.Mem [] W W [] := Kw.Mem.start _ _
  refine Kw.to (b := ⟨#[.int .u32 (u x), .int .u8 73, undef, undef, undef, undef, undef, undef, undef, undef, undef, undef, undef, undef, undef, undef, undef, undef, undef, undef, undef, undef, undef, undef, undef, undef, undef, undef, undef, undef, undef, undef, undef, undef, undef, undef, undef, undef, undef, undef, undef, undef, undef, undef, undef, undef, undef, undef, undef, undef, undef, undef, undef, undef, undef, undef, undef, undef, undef, undef, undef, undef, undef, undef, undef, undef, undef, undef, undef, undef, undef, undef], []⟩) (by kernel_rfl) ?_
  refine wp_seq (Kw.region ?_)
  refine KS.p (.int .i64 0) ?_
  refine KS.n5 ?_
  refine KS.p (.int .u8 73) ?_
  refine Kw.fin (Kw.then_normal (wp_block (wp_seq (Kw.region ?_))))
  refine KS.p (.bool true) ?_
  refine KS.p (.bool true) ?_
  refine KS.n2 ?_
  refine wp_cond_true (by kernel_rfl) ?_
  refine wp_seq (Kw.region ?_)
  refine KS.p (.int .u32 (u x)) ?_
  refine KS.c (.int .u64 (u (getI x 20 12))) 56 #[.int .u32 (u x), .int .i64 20, .int .i64 12] M0 (get13_c x 20 12 W) fun w1 M1 => ?_
  refine KS.c (.int .i64 (s (signI (getI x 20 12) 12))) 61 #[.int .u64 (u (getI x 20 12)), .int .i64 12] M1 (signed_c (getI x 20 12) 12 w1) fun w2 M2 => ?_
  refine KS.p (.int .i64 (s (signI (getI x 20 12) 12))) ?_
  refine Kw.fin (Kw.then_normal (wp_ret (Kw.block_ret (Kw.then_ret ?_))))
  exact bodyPost_ret (v := .int .i64 (s (signI (getI x 20 12) 12))) (by kernel_rfl) (by kernel_rfl) ⟨congrArg (fun z => Ending.returned (Value.int .i64 z)) (imm_law_I k hs x), M2.drop⟩
theorem imm_law_C (k : Nat) (hs : sh k = 67) (x : BitVec 64) : (s (getI x 20 12)) = s (immK k x) := by
  apply congrArg s
  rw [immK_C k hs, put_sum _ _ _ _ (by omega) (fun i h1 h2 => by (repeat (rw [putI_bit _ _ _ _ _ (by omega) (by omega), if_neg (by omega)])); exact BitVec.getLsbD_zero)]
  have g0 := get_mask x 20 12 (by omega)
  simp only [Int.reduceToNat, show mask 1 = 1#64 from by decide, show mask 3 = 7#64 from by decide, show mask 4 = 15#64 from by decide, show mask 5 = 31#64 from by decide, show mask 6 = 63#64 from by decide, show mask 7 = 127#64 from by decide, show mask 8 = 255#64 from by decide, show mask 10 = 1023#64 from by decide, show mask 12 = 4095#64 from by decide, show mask 13 = 8191#64 from by decide, show mask 20 = 1048575#64 from by decide] at *
  simp only [g0, BitVec.zero_add, BitVec.shiftLeft_zero]
set_option maxRecDepth 100000 in
theorem imm_C (k : Nat) (hs : sh k = 67) (x : BitVec 64) (W : World) : Calls Try.prog 55 #[.int .u32 (u x), .int .u8 67] W fun e W' => e = .returned (.int .i64 (s (immK k x))) ∧ Kw.Mem [] W W' [] := by
  refine calls_of_wp Try.func55 rfl ?_
  have M0 : Kw.Mem [] W W [] := Kw.Mem.start _ _
  refine Kw.to (b := ⟨#[.int .u32 (u x), .int .u8 67, undef, undef, undef, undef, undef, undef, undef, undef, undef, undef, undef, undef, undef, undef, undef, undef, undef, undef, undef, undef, undef, undef, undef, undef, undef, undef, undef, undef, undef, undef, undef, undef, undef, undef, undef, undef, undef, undef, undef, undef, undef, undef, undef, undef, undef, undef, undef, undef, undef, undef, undef, undef, undef, undef, undef, undef, undef, undef, undef, undef, undef, undef, undef, undef, undef, undef, undef, undef, undef, undef], []⟩) (by kernel_rfl) ?_
  refine wp_seq (Kw.region ?_)
  refine KS.p (.int .i64 0) ?_
  refine KS.n5 ?_
  refine KS.p (.int .u8 67) ?_
  refine Kw.fin (Kw.then_normal (wp_block (wp_seq (Kw.region ?_))))
  refine KS.p (.bool false) ?_
  refine KS.p (.bool false) ?_
  refine KS.n2 ?_
  refine wp_cond_false (by kernel_rfl) ?_
  refine wp_seq (Kw.region ?_)
  refine KS.p (.bool true) ?_
  refine KS.p (.bool true) ?_
  refine KS.n2 ?_
  refine wp_cond_true (by kernel_rfl) ?_
  refine wp_seq (Kw.region ?_)
  refine KS.p (.int .u32 (u x)) ?_
  refine KS.c (.int .u64 (u (getI x 20 12))) 56 #[.int .u32 (u x), .int .i64 20, .int .i64 12] M0 (get13_c x 20 12 W) fun w1 M1 => ?_
  refine Kw.pure (.int .i64 (s (getI x 20 12))) (by kernel_rfl) (Kw.eqv (v := .int .i64 (IntKind.i64.wrap (u (getI x 20 12)))) (by kernel_rfl) (congrArg (Value.int .i64) (wrapi_u (getI x 20 12)))) ?_
  refine KS.p (.int .i64 (s (getI x 20 12))) ?_
  refine Kw.fin (Kw.then_normal (wp_ret (Kw.block_ret (Kw.then_ret ?_))))
  exact bodyPost_ret (v := .int .i64 (s (getI x 20 12))) (by kernel_rfl) (by kernel_rfl) ⟨congrArg (fun z => Ending.returned (Value.int .i64 z)) (imm_law_C k hs x), M1.drop⟩
theorem imm_law_H (k : Nat) (hs : sh k = 72) (x : BitVec 64) : (s (getI x 20 6)) = s (immK k x) := by
  apply congrArg s
  rw [immK_H k hs, put_sum _ _ _ _ (by omega) (fun i h1 h2 => by (repeat (rw [putI_bit _ _ _ _ _ (by omega) (by omega), if_neg (by omega)])); exact BitVec.getLsbD_zero)]
  have g0 := get_mask x 20 6 (by omega)
  simp only [Int.reduceToNat, show mask 1 = 1#64 from by decide, show mask 3 = 7#64 from by decide, show mask 4 = 15#64 from by decide, show mask 5 = 31#64 from by decide, show mask 6 = 63#64 from by decide, show mask 7 = 127#64 from by decide, show mask 8 = 255#64 from by decide, show mask 10 = 1023#64 from by decide, show mask 12 = 4095#64 from by decide, show mask 13 = 8191#64 from by decide, show mask 20 = 1048575#64 from by decide] at *
  simp only [g0, BitVec.zero_add, BitVec.shiftLeft_zero]
set_option maxRecDepth 100000 in
theorem imm_H (k : Nat) (hs : sh k = 72) (x : BitVec 64) (W : World) : Calls Try.prog 55 #[.int .u32 (u x), .int .u8 72] W fun e W' => e = .returned (.int .i64 (s (immK k x))) ∧ Kw.Mem [] W W' [] := by
  refine calls_of_wp Try.func55 rfl ?_
  have M0 : Kw.Mem [] W W [] := Kw.Mem.start _ _
  refine Kw.to (b := ⟨#[.int .u32 (u x), .int .u8 72, undef, undef, undef, undef, undef, undef, undef, undef, undef, undef, undef, undef, undef, undef, undef, undef, undef, undef, undef, undef, undef, undef, undef, undef, undef, undef, undef, undef, undef, undef, undef, undef, undef, undef, undef, undef, undef, undef, undef, undef, undef, undef, undef, undef, undef, undef, undef, undef, undef, undef, undef, undef, undef, undef, undef, undef, undef, undef, undef, undef, undef, undef, undef, undef, undef, undef, undef, undef, undef, undef], []⟩) (by kernel_rfl) ?_
  refine wp_seq (Kw.region ?_)
  refine KS.p (.int .i64 0) ?_
  refine KS.n5 ?_
  refine KS.p (.int .u8 72) ?_
  refine Kw.fin (Kw.then_normal (wp_block (wp_seq (Kw.region ?_))))
  refine KS.p (.bool false) ?_
  refine KS.p (.bool false) ?_
  refine KS.n2 ?_
  refine wp_cond_false (by kernel_rfl) ?_
  refine wp_seq (Kw.region ?_)
  refine KS.p (.bool false) ?_
  refine KS.p (.bool false) ?_
  refine KS.n2 ?_
  refine wp_cond_false (by kernel_rfl) ?_
  refine wp_seq (Kw.region ?_)
  refine KS.p (.bool true) ?_
  refine KS.p (.bool true) ?_
  refine KS.n2 ?_
  refine wp_cond_true (by kernel_rfl) ?_
  refine wp_seq (Kw.region ?_)
  refine KS.p (.int .u32 (u x)) ?_
  refine KS.c (.int .u64 (u (getI x 20 6))) 56 #[.int .u32 (u x), .int .i64 20, .int .i64 6] M0 (get13_c x 20 6 W) fun w1 M1 => ?_
  refine Kw.pure (.int .i64 (s (getI x 20 6))) (by kernel_rfl) (Kw.eqv (v := .int .i64 (IntKind.i64.wrap (u (getI x 20 6)))) (by kernel_rfl) (congrArg (Value.int .i64) (wrapi_u (getI x 20 6)))) ?_
  refine KS.p (.int .i64 (s (getI x 20 6))) ?_
  refine Kw.fin (Kw.then_normal (wp_ret (Kw.block_ret (Kw.then_ret ?_))))
  exact bodyPost_ret (v := .int .i64 (s (getI x 20 6))) (by kernel_rfl) (by kernel_rfl) ⟨congrArg (fun z => Ending.returned (Value.int .i64 z)) (imm_law_H k hs x), M1.drop⟩
theorem imm_law_S (k : Nat) (hs : sh k = 83) (x : BitVec 64) : (s (signI ((getI x 7 5) + ((getI x 25 7) <<< 5)) 12)) = s (immK k x) := by
  apply congrArg s
  rw [immK_S k hs, put_sum _ _ _ _ (by omega) (fun i h1 h2 => by (repeat (rw [putI_bit _ _ _ _ _ (by omega) (by omega), if_neg (by omega)])); exact BitVec.getLsbD_zero), put_sum _ _ _ _ (by omega) (fun i h1 h2 => by (repeat (rw [putI_bit _ _ _ _ _ (by omega) (by omega), if_neg (by omega)])); exact BitVec.getLsbD_zero)]
  have g0 := get_mask x 7 5 (by omega)
  have g1 := get_mask x 25 7 (by omega)
  simp only [Int.reduceToNat, show mask 1 = 1#64 from by decide, show mask 3 = 7#64 from by decide, show mask 4 = 15#64 from by decide, show mask 5 = 31#64 from by decide, show mask 6 = 63#64 from by decide, show mask 7 = 127#64 from by decide, show mask 8 = 255#64 from by decide, show mask 10 = 1023#64 from by decide, show mask 12 = 4095#64 from by decide, show mask 13 = 8191#64 from by decide, show mask 20 = 1048575#64 from by decide] at *
  simp only [g0, g1, BitVec.zero_add, BitVec.shiftLeft_zero]
set_option maxRecDepth 100000 in
theorem imm_S (k : Nat) (hs : sh k = 83) (x : BitVec 64) (W : World) : Calls Try.prog 55 #[.int .u32 (u x), .int .u8 83] W fun e W' => e = .returned (.int .i64 (s (immK k x))) ∧ Kw.Mem [] W W' [] := by
  refine calls_of_wp Try.func55 rfl ?_
  have M0 : Kw.Mem [] W W [] := Kw.Mem.start _ _
  refine Kw.to (b := ⟨#[.int .u32 (u x), .int .u8 83, undef, undef, undef, undef, undef, undef, undef, undef, undef, undef, undef, undef, undef, undef, undef, undef, undef, undef, undef, undef, undef, undef, undef, undef, undef, undef, undef, undef, undef, undef, undef, undef, undef, undef, undef, undef, undef, undef, undef, undef, undef, undef, undef, undef, undef, undef, undef, undef, undef, undef, undef, undef, undef, undef, undef, undef, undef, undef, undef, undef, undef, undef, undef, undef, undef, undef, undef, undef, undef, undef], []⟩) (by kernel_rfl) ?_
  refine wp_seq (Kw.region ?_)
  refine KS.p (.int .i64 0) ?_
  refine KS.n5 ?_
  refine KS.p (.int .u8 83) ?_
  refine Kw.fin (Kw.then_normal (wp_block (wp_seq (Kw.region ?_))))
  refine KS.p (.bool false) ?_
  refine KS.p (.bool false) ?_
  refine KS.n2 ?_
  refine wp_cond_false (by kernel_rfl) ?_
  refine wp_seq (Kw.region ?_)
  refine KS.p (.bool false) ?_
  refine KS.p (.bool false) ?_
  refine KS.n2 ?_
  refine wp_cond_false (by kernel_rfl) ?_
  refine wp_seq (Kw.region ?_)
  refine KS.p (.bool false) ?_
  refine KS.p (.bool false) ?_
  refine KS.n2 ?_
  refine wp_cond_false (by kernel_rfl) ?_
  refine wp_seq (Kw.region ?_)
  refine KS.p (.bool true) ?_
  refine KS.p (.bool true) ?_
  refine KS.n2 ?_
  refine wp_cond_true (by kernel_rfl) ?_
  refine wp_seq (Kw.region ?_)
  refine KS.p (.int .u32 (u x)) ?_
  refine KS.c (.int .u64 (u (getI x 7 5))) 56 #[.int .u32 (u x), .int .i64 7, .int .i64 5] M0 (get13_c x 7 5 W) fun w1 M1 => ?_
  refine KS.p (.int .u32 (u x)) ?_
  refine KS.c (.int .u64 (u (getI x 25 7))) 56 #[.int .u32 (u x), .int .i64 25, .int .i64 7] M1 (get13_c x 25 7 w1) fun w2 M2 => ?_
  refine Kw.pure (.int .u64 (u ((getI x 25 7) <<< 5))) (by kernel_rfl) (Kw.eqv (v := .int .u64 (IntKind.u64.wrap ((u (getI x 25 7)) * 2 ^ 5))) (by kernel_rfl) (congrArg (Value.int .u64) (wrap64_shl (getI x 25 7) 5 (by omega)))) ?_
  refine Kw.pure (.int .u64 (u ((getI x 7 5) + ((getI x 25 7) <<< 5)))) (by kernel_rfl) (Kw.eqv (v := .int .u64 (IntKind.u64.wrap ((u (getI x 7 5)) + (u ((getI x 25 7) <<< 5))))) (by kernel_rfl) (congrArg (Value.int .u64) (wrap_add (getI x 7 5) ((getI x 25 7) <<< 5)))) ?_
  refine KS.c (.int .i64 (s (signI ((getI x 7 5) + ((getI x 25 7) <<< 5)) 12))) 61 #[.int .u64 (u ((getI x 7 5) + ((getI x 25 7) <<< 5))), .int .i64 12] M2 (signed_c ((getI x 7 5) + ((getI x 25 7) <<< 5)) 12 w2) fun w3 M3 => ?_
  refine KS.p (.int .i64 (s (signI ((getI x 7 5) + ((getI x 25 7) <<< 5)) 12))) ?_
  refine Kw.fin (Kw.then_normal (wp_ret (Kw.block_ret (Kw.then_ret ?_))))
  exact bodyPost_ret (v := .int .i64 (s (signI ((getI x 7 5) + ((getI x 25 7) <<< 5)) 12))) (by kernel_rfl) (by kernel_rfl) ⟨congrArg (fun z => Ending.returned (Value.int .i64 z)) (imm_law_S k hs x), M3.drop⟩
theorem imm_law_B (k : Nat) (hs : sh k = 66) (x : BitVec 64) : (s (signI (((((getI x 8 4) <<< 1) + ((getI x 25 6) <<< 5)) + ((getI x 7 1) <<< 11)) + ((getI x 31 1) <<< 12)) 13)) = s (immK k x) := by
  apply congrArg s
  rw [immK_B k hs, put_sum _ _ _ _ (by omega) (fun i h1 h2 => by (repeat (rw [putI_bit _ _ _ _ _ (by omega) (by omega), if_neg (by omega)])); exact BitVec.getLsbD_zero), put_sum _ _ _ _ (by omega) (fun i h1 h2 => by (repeat (rw [putI_bit _ _ _ _ _ (by omega) (by omega), if_neg (by omega)])); exact BitVec.getLsbD_zero), put_sum _ _ _ _ (by omega) (fun i h1 h2 => by (repeat (rw [putI_bit _ _ _ _ _ (by omega) (by omega), if_neg (by omega)])); exact BitVec.getLsbD_zero), put_sum _ _ _ _ (by omega) (fun i h1 h2 => by (repeat (rw [putI_bit _ _ _ _ _ (by omega) (by omega), if_neg (by omega)])); exact BitVec.getLsbD_zero)]
  have g0 := get_mask x 8 4 (by omega)
  have g1 := get_mask x 25 6 (by omega)
  have g2 := get_mask x 7 1 (by omega)
  have g3 := get_mask x 31 1 (by omega)
  simp only [Int.reduceToNat, show mask 1 = 1#64 from by decide, show mask 3 = 7#64 from by decide, show mask 4 = 15#64 from by decide, show mask 5 = 31#64 from by decide, show mask 6 = 63#64 from by decide, show mask 7 = 127#64 from by decide, show mask 8 = 255#64 from by decide, show mask 10 = 1023#64 from by decide, show mask 12 = 4095#64 from by decide, show mask 13 = 8191#64 from by decide, show mask 20 = 1048575#64 from by decide] at *
  simp only [g0, g1, g2, g3, BitVec.zero_add, BitVec.shiftLeft_zero]
set_option maxRecDepth 100000 in
theorem imm_B (k : Nat) (hs : sh k = 66) (x : BitVec 64) (W : World) : Calls Try.prog 55 #[.int .u32 (u x), .int .u8 66] W fun e W' => e = .returned (.int .i64 (s (immK k x))) ∧ Kw.Mem [] W W' [] := by
  refine calls_of_wp Try.func55 rfl ?_
  have M0 : Kw.Mem [] W W [] := Kw.Mem.start _ _
  refine Kw.to (b := ⟨#[.int .u32 (u x), .int .u8 66, undef, undef, undef, undef, undef, undef, undef, undef, undef, undef, undef, undef, undef, undef, undef, undef, undef, undef, undef, undef, undef, undef, undef, undef, undef, undef, undef, undef, undef, undef, undef, undef, undef, undef, undef, undef, undef, undef, undef, undef, undef, undef, undef, undef, undef, undef, undef, undef, undef, undef, undef, undef, undef, undef, undef, undef, undef, undef, undef, undef, undef, undef, undef, undef, undef, undef, undef, undef, undef, undef], []⟩) (by kernel_rfl) ?_
  refine wp_seq (Kw.region ?_)
  refine KS.p (.int .i64 0) ?_
  refine KS.n5 ?_
  refine KS.p (.int .u8 66) ?_
  refine Kw.fin (Kw.then_normal (wp_block (wp_seq (Kw.region ?_))))
  refine KS.p (.bool false) ?_
  refine KS.p (.bool false) ?_
  refine KS.n2 ?_
  refine wp_cond_false (by kernel_rfl) ?_
  refine wp_seq (Kw.region ?_)
  refine KS.p (.bool false) ?_
  refine KS.p (.bool false) ?_
  refine KS.n2 ?_
  refine wp_cond_false (by kernel_rfl) ?_
  refine wp_seq (Kw.region ?_)
  refine KS.p (.bool false) ?_
  refine KS.p (.bool false) ?_
  refine KS.n2 ?_
  refine wp_cond_false (by kernel_rfl) ?_
  refine wp_seq (Kw.region ?_)
  refine KS.p (.bool false) ?_
  refine KS.p (.bool false) ?_
  refine KS.n2 ?_
  refine wp_cond_false (by kernel_rfl) ?_
  refine wp_seq (Kw.region ?_)
  refine KS.p (.bool true) ?_
  refine KS.p (.bool true) ?_
  refine KS.n2 ?_
  refine wp_cond_true (by kernel_rfl) ?_
  refine wp_seq (Kw.region ?_)
  refine KS.p (.int .u32 (u x)) ?_
  refine KS.c (.int .u64 (u (getI x 8 4))) 56 #[.int .u32 (u x), .int .i64 8, .int .i64 4] M0 (get13_c x 8 4 W) fun w1 M1 => ?_
  refine Kw.pure (.int .u64 (u ((getI x 8 4) <<< 1))) (by kernel_rfl) (Kw.eqv (v := .int .u64 (IntKind.u64.wrap ((u (getI x 8 4)) * 2 ^ 1))) (by kernel_rfl) (congrArg (Value.int .u64) (wrap64_shl (getI x 8 4) 1 (by omega)))) ?_
  refine KS.p (.int .u32 (u x)) ?_
  refine KS.c (.int .u64 (u (getI x 25 6))) 56 #[.int .u32 (u x), .int .i64 25, .int .i64 6] M1 (get13_c x 25 6 w1) fun w2 M2 => ?_
  refine Kw.pure (.int .u64 (u ((getI x 25 6) <<< 5))) (by kernel_rfl) (Kw.eqv (v := .int .u64 (IntKind.u64.wrap ((u (getI x 25 6)) * 2 ^ 5))) (by kernel_rfl) (congrArg (Value.int .u64) (wrap64_shl (getI x 25 6) 5 (by omega)))) ?_
  refine Kw.pure (.int .u64 (u (((getI x 8 4) <<< 1) + ((getI x 25 6) <<< 5)))) (by kernel_rfl) (Kw.eqv (v := .int .u64 (IntKind.u64.wrap ((u ((getI x 8 4) <<< 1)) + (u ((getI x 25 6) <<< 5))))) (by kernel_rfl) (congrArg (Value.int .u64) (wrap_add ((getI x 8 4) <<< 1) ((getI x 25 6) <<< 5)))) ?_
  refine KS.p (.int .u32 (u x)) ?_
  refine KS.c (.int .u64 (u (getI x 7 1))) 56 #[.int .u32 (u x), .int .i64 7, .int .i64 1] M2 (get13_c x 7 1 w2) fun w3 M3 => ?_
  refine Kw.pure (.int .u64 (u ((getI x 7 1) <<< 11))) (by kernel_rfl) (Kw.eqv (v := .int .u64 (IntKind.u64.wrap ((u (getI x 7 1)) * 2 ^ 11))) (by kernel_rfl) (congrArg (Value.int .u64) (wrap64_shl (getI x 7 1) 11 (by omega)))) ?_
  refine Kw.pure (.int .u64 (u ((((getI x 8 4) <<< 1) + ((getI x 25 6) <<< 5)) + ((getI x 7 1) <<< 11)))) (by kernel_rfl) (Kw.eqv (v := .int .u64 (IntKind.u64.wrap ((u (((getI x 8 4) <<< 1) + ((getI x 25 6) <<< 5))) + (u ((getI x 7 1) <<< 11))))) (by kernel_rfl) (congrArg (Value.int .u64) (wrap_add (((getI x 8 4) <<< 1) + ((getI x 25 6) <<< 5)) ((getI x 7 1) <<< 11)))) ?_
  refine KS.p (.int .u32 (u x)) ?_
  refine KS.c (.int .u64 (u (getI x 31 1))) 56 #[.int .u32 (u x), .int .i64 31, .int .i64 1] M3 (get13_c x 31 1 w3) fun w4 M4 => ?_
  refine Kw.pure (.int .u64 (u ((getI x 31 1) <<< 12))) (by kernel_rfl) (Kw.eqv (v := .int .u64 (IntKind.u64.wrap ((u (getI x 31 1)) * 2 ^ 12))) (by kernel_rfl) (congrArg (Value.int .u64) (wrap64_shl (getI x 31 1) 12 (by omega)))) ?_
  refine Kw.pure (.int .u64 (u (((((getI x 8 4) <<< 1) + ((getI x 25 6) <<< 5)) + ((getI x 7 1) <<< 11)) + ((getI x 31 1) <<< 12)))) (by kernel_rfl) (Kw.eqv (v := .int .u64 (IntKind.u64.wrap ((u ((((getI x 8 4) <<< 1) + ((getI x 25 6) <<< 5)) + ((getI x 7 1) <<< 11))) + (u ((getI x 31 1) <<< 12))))) (by kernel_rfl) (congrArg (Value.int .u64) (wrap_add ((((getI x 8 4) <<< 1) + ((getI x 25 6) <<< 5)) + ((getI x 7 1) <<< 11)) ((getI x 31 1) <<< 12)))) ?_
  refine KS.c (.int .i64 (s (signI (((((getI x 8 4) <<< 1) + ((getI x 25 6) <<< 5)) + ((getI x 7 1) <<< 11)) + ((getI x 31 1) <<< 12)) 13))) 61 #[.int .u64 (u (((((getI x 8 4) <<< 1) + ((getI x 25 6) <<< 5)) + ((getI x 7 1) <<< 11)) + ((getI x 31 1) <<< 12))), .int .i64 13] M4 (signed_c (((((getI x 8 4) <<< 1) + ((getI x 25 6) <<< 5)) + ((getI x 7 1) <<< 11)) + ((getI x 31 1) <<< 12)) 13 w4) fun w5 M5 => ?_
  refine KS.p (.int .i64 (s (signI (((((getI x 8 4) <<< 1) + ((getI x 25 6) <<< 5)) + ((getI x 7 1) <<< 11)) + ((getI x 31 1) <<< 12)) 13))) ?_
  refine Kw.fin (Kw.then_normal (wp_ret (Kw.block_ret (Kw.then_ret ?_))))
  exact bodyPost_ret (v := .int .i64 (s (signI (((((getI x 8 4) <<< 1) + ((getI x 25 6) <<< 5)) + ((getI x 7 1) <<< 11)) + ((getI x 31 1) <<< 12)) 13))) (by kernel_rfl) (by kernel_rfl) ⟨congrArg (fun z => Ending.returned (Value.int .i64 z)) (imm_law_B k hs x), M5.drop⟩
theorem imm_law_U (k : Nat) (hs : sh k = 85) (x : BitVec 64) : (s (signI ((getI x 12 20) <<< 12) 32)) = s (immK k x) := by
  apply congrArg s
  rw [immK_U k hs, put_sum _ _ _ _ (by omega) (fun i h1 h2 => by (repeat (rw [putI_bit _ _ _ _ _ (by omega) (by omega), if_neg (by omega)])); exact BitVec.getLsbD_zero)]
  have g0 := get_mask x 12 20 (by omega)
  simp only [Int.reduceToNat, show mask 1 = 1#64 from by decide, show mask 3 = 7#64 from by decide, show mask 4 = 15#64 from by decide, show mask 5 = 31#64 from by decide, show mask 6 = 63#64 from by decide, show mask 7 = 127#64 from by decide, show mask 8 = 255#64 from by decide, show mask 10 = 1023#64 from by decide, show mask 12 = 4095#64 from by decide, show mask 13 = 8191#64 from by decide, show mask 20 = 1048575#64 from by decide] at *
  simp only [g0, BitVec.zero_add, BitVec.shiftLeft_zero]
set_option maxRecDepth 100000 in
theorem imm_U (k : Nat) (hs : sh k = 85) (x : BitVec 64) (W : World) : Calls Try.prog 55 #[.int .u32 (u x), .int .u8 85] W fun e W' => e = .returned (.int .i64 (s (immK k x))) ∧ Kw.Mem [] W W' [] := by
  refine calls_of_wp Try.func55 rfl ?_
  have M0 : Kw.Mem [] W W [] := Kw.Mem.start _ _
  refine Kw.to (b := ⟨#[.int .u32 (u x), .int .u8 85, undef, undef, undef, undef, undef, undef, undef, undef, undef, undef, undef, undef, undef, undef, undef, undef, undef, undef, undef, undef, undef, undef, undef, undef, undef, undef, undef, undef, undef, undef, undef, undef, undef, undef, undef, undef, undef, undef, undef, undef, undef, undef, undef, undef, undef, undef, undef, undef, undef, undef, undef, undef, undef, undef, undef, undef, undef, undef, undef, undef, undef, undef, undef, undef, undef, undef, undef, undef, undef, undef], []⟩) (by kernel_rfl) ?_
  refine wp_seq (Kw.region ?_)
  refine KS.p (.int .i64 0) ?_
  refine KS.n5 ?_
  refine KS.p (.int .u8 85) ?_
  refine Kw.fin (Kw.then_normal (wp_block (wp_seq (Kw.region ?_))))
  refine KS.p (.bool false) ?_
  refine KS.p (.bool false) ?_
  refine KS.n2 ?_
  refine wp_cond_false (by kernel_rfl) ?_
  refine wp_seq (Kw.region ?_)
  refine KS.p (.bool false) ?_
  refine KS.p (.bool false) ?_
  refine KS.n2 ?_
  refine wp_cond_false (by kernel_rfl) ?_
  refine wp_seq (Kw.region ?_)
  refine KS.p (.bool false) ?_
  refine KS.p (.bool false) ?_
  refine KS.n2 ?_
  refine wp_cond_false (by kernel_rfl) ?_
  refine wp_seq (Kw.region ?_)
  refine KS.p (.bool false) ?_
  refine KS.p (.bool false) ?_
  refine KS.n2 ?_
  refine wp_cond_false (by kernel_rfl) ?_
  refine wp_seq (Kw.region ?_)
  refine KS.p (.bool false) ?_
  refine KS.p (.bool false) ?_
  refine KS.n2 ?_
  refine wp_cond_false (by kernel_rfl) ?_
  refine wp_seq (Kw.region ?_)
  refine KS.p (.bool true) ?_
  refine KS.p (.bool true) ?_
  refine KS.n2 ?_
  refine wp_cond_true (by kernel_rfl) ?_
  refine wp_seq (Kw.region ?_)
  refine KS.p (.int .u32 (u x)) ?_
  refine KS.c (.int .u64 (u (getI x 12 20))) 56 #[.int .u32 (u x), .int .i64 12, .int .i64 20] M0 (get13_c x 12 20 W) fun w1 M1 => ?_
  refine Kw.pure (.int .u64 (u ((getI x 12 20) <<< 12))) (by kernel_rfl) (Kw.eqv (v := .int .u64 (IntKind.u64.wrap ((u (getI x 12 20)) * 2 ^ 12))) (by kernel_rfl) (congrArg (Value.int .u64) (wrap64_shl (getI x 12 20) 12 (by omega)))) ?_
  refine KS.c (.int .i64 (s (signI ((getI x 12 20) <<< 12) 32))) 61 #[.int .u64 (u ((getI x 12 20) <<< 12)), .int .i64 32] M1 (signed_c ((getI x 12 20) <<< 12) 32 w1) fun w2 M2 => ?_
  refine KS.p (.int .i64 (s (signI ((getI x 12 20) <<< 12) 32))) ?_
  refine Kw.fin (Kw.then_normal (wp_ret (Kw.block_ret (Kw.then_ret ?_))))
  exact bodyPost_ret (v := .int .i64 (s (signI ((getI x 12 20) <<< 12) 32))) (by kernel_rfl) (by kernel_rfl) ⟨congrArg (fun z => Ending.returned (Value.int .i64 z)) (imm_law_U k hs x), M2.drop⟩
theorem imm_law_J (k : Nat) (hs : sh k = 74) (x : BitVec 64) : (s (signI (((((getI x 21 10) <<< 1) + ((getI x 20 1) <<< 11)) + ((getI x 12 8) <<< 12)) + ((getI x 31 1) <<< 20)) 21)) = s (immK k x) := by
  apply congrArg s
  rw [immK_J k hs, put_sum _ _ _ _ (by omega) (fun i h1 h2 => by (repeat (rw [putI_bit _ _ _ _ _ (by omega) (by omega), if_neg (by omega)])); exact BitVec.getLsbD_zero), put_sum _ _ _ _ (by omega) (fun i h1 h2 => by (repeat (rw [putI_bit _ _ _ _ _ (by omega) (by omega), if_neg (by omega)])); exact BitVec.getLsbD_zero), put_sum _ _ _ _ (by omega) (fun i h1 h2 => by (repeat (rw [putI_bit _ _ _ _ _ (by omega) (by omega), if_neg (by omega)])); exact BitVec.getLsbD_zero), put_sum _ _ _ _ (by omega) (fun i h1 h2 => by (repeat (rw [putI_bit _ _ _ _ _ (by omega) (by omega), if_neg (by omega)])); exact BitVec.getLsbD_zero)]
  have g0 := get_mask x 21 10 (by omega)
  have g1 := get_mask x 20 1 (by omega)
  have g2 := get_mask x 12 8 (by omega)
  have g3 := get_mask x 31 1 (by omega)
  simp only [Int.reduceToNat, show mask 1 = 1#64 from by decide, show mask 3 = 7#64 from by decide, show mask 4 = 15#64 from by decide, show mask 5 = 31#64 from by decide, show mask 6 = 63#64 from by decide, show mask 7 = 127#64 from by decide, show mask 8 = 255#64 from by decide, show mask 10 = 1023#64 from by decide, show mask 12 = 4095#64 from by decide, show mask 13 = 8191#64 from by decide, show mask 20 = 1048575#64 from by decide] at *
  simp only [g0, g1, g2, g3, BitVec.zero_add, BitVec.shiftLeft_zero]
  apply sign_eq
  generalize getI x 21 10 <<< 1 = b0
  generalize getI x 20 1 <<< 11 = b1
  generalize getI x 12 8 <<< 12 = b2
  generalize getI x 31 1 <<< 20 = b3
  ac_rfl
set_option maxRecDepth 100000 in
theorem imm_J (k : Nat) (hs : sh k = 74) (x : BitVec 64) (W : World) : Calls Try.prog 55 #[.int .u32 (u x), .int .u8 74] W fun e W' => e = .returned (.int .i64 (s (immK k x))) ∧ Kw.Mem [] W W' [] := by
  refine calls_of_wp Try.func55 rfl ?_
  have M0 : Kw.Mem [] W W [] := Kw.Mem.start _ _
  refine Kw.to (b := ⟨#[.int .u32 (u x), .int .u8 74, undef, undef, undef, undef, undef, undef, undef, undef, undef, undef, undef, undef, undef, undef, undef, undef, undef, undef, undef, undef, undef, undef, undef, undef, undef, undef, undef, undef, undef, undef, undef, undef, undef, undef, undef, undef, undef, undef, undef, undef, undef, undef, undef, undef, undef, undef, undef, undef, undef, undef, undef, undef, undef, undef, undef, undef, undef, undef, undef, undef, undef, undef, undef, undef, undef, undef, undef, undef, undef, undef], []⟩) (by kernel_rfl) ?_
  refine wp_seq (Kw.region ?_)
  refine KS.p (.int .i64 0) ?_
  refine KS.n5 ?_
  refine KS.p (.int .u8 74) ?_
  refine Kw.fin (Kw.then_normal (wp_block (wp_seq (Kw.region ?_))))
  refine KS.p (.bool false) ?_
  refine KS.p (.bool false) ?_
  refine KS.n2 ?_
  refine wp_cond_false (by kernel_rfl) ?_
  refine wp_seq (Kw.region ?_)
  refine KS.p (.bool false) ?_
  refine KS.p (.bool false) ?_
  refine KS.n2 ?_
  refine wp_cond_false (by kernel_rfl) ?_
  refine wp_seq (Kw.region ?_)
  refine KS.p (.bool false) ?_
  refine KS.p (.bool false) ?_
  refine KS.n2 ?_
  refine wp_cond_false (by kernel_rfl) ?_
  refine wp_seq (Kw.region ?_)
  refine KS.p (.bool false) ?_
  refine KS.p (.bool false) ?_
  refine KS.n2 ?_
  refine wp_cond_false (by kernel_rfl) ?_
  refine wp_seq (Kw.region ?_)
  refine KS.p (.bool false) ?_
  refine KS.p (.bool false) ?_
  refine KS.n2 ?_
  refine wp_cond_false (by kernel_rfl) ?_
  refine wp_seq (Kw.region ?_)
  refine KS.p (.bool false) ?_
  refine KS.p (.bool false) ?_
  refine KS.n2 ?_
  refine wp_cond_false (by kernel_rfl) ?_
  refine wp_seq (Kw.region ?_)
  refine KS.p (.bool true) ?_
  refine KS.p (.bool true) ?_
  refine KS.n2 ?_
  refine wp_cond_true (by kernel_rfl) ?_
  refine wp_seq (Kw.region ?_)
  refine KS.p (.int .u32 (u x)) ?_
  refine KS.c (.int .u64 (u (getI x 21 10))) 56 #[.int .u32 (u x), .int .i64 21, .int .i64 10] M0 (get13_c x 21 10 W) fun w1 M1 => ?_
  refine Kw.pure (.int .u64 (u ((getI x 21 10) <<< 1))) (by kernel_rfl) (Kw.eqv (v := .int .u64 (IntKind.u64.wrap ((u (getI x 21 10)) * 2 ^ 1))) (by kernel_rfl) (congrArg (Value.int .u64) (wrap64_shl (getI x 21 10) 1 (by omega)))) ?_
  refine KS.p (.int .u32 (u x)) ?_
  refine KS.c (.int .u64 (u (getI x 20 1))) 56 #[.int .u32 (u x), .int .i64 20, .int .i64 1] M1 (get13_c x 20 1 w1) fun w2 M2 => ?_
  refine Kw.pure (.int .u64 (u ((getI x 20 1) <<< 11))) (by kernel_rfl) (Kw.eqv (v := .int .u64 (IntKind.u64.wrap ((u (getI x 20 1)) * 2 ^ 11))) (by kernel_rfl) (congrArg (Value.int .u64) (wrap64_shl (getI x 20 1) 11 (by omega)))) ?_
  refine Kw.pure (.int .u64 (u (((getI x 21 10) <<< 1) + ((getI x 20 1) <<< 11)))) (by kernel_rfl) (Kw.eqv (v := .int .u64 (IntKind.u64.wrap ((u ((getI x 21 10) <<< 1)) + (u ((getI x 20 1) <<< 11))))) (by kernel_rfl) (congrArg (Value.int .u64) (wrap_add ((getI x 21 10) <<< 1) ((getI x 20 1) <<< 11)))) ?_
  refine KS.p (.int .u32 (u x)) ?_
  refine KS.c (.int .u64 (u (getI x 12 8))) 56 #[.int .u32 (u x), .int .i64 12, .int .i64 8] M2 (get13_c x 12 8 w2) fun w3 M3 => ?_
  refine Kw.pure (.int .u64 (u ((getI x 12 8) <<< 12))) (by kernel_rfl) (Kw.eqv (v := .int .u64 (IntKind.u64.wrap ((u (getI x 12 8)) * 2 ^ 12))) (by kernel_rfl) (congrArg (Value.int .u64) (wrap64_shl (getI x 12 8) 12 (by omega)))) ?_
  refine Kw.pure (.int .u64 (u ((((getI x 21 10) <<< 1) + ((getI x 20 1) <<< 11)) + ((getI x 12 8) <<< 12)))) (by kernel_rfl) (Kw.eqv (v := .int .u64 (IntKind.u64.wrap ((u (((getI x 21 10) <<< 1) + ((getI x 20 1) <<< 11))) + (u ((getI x 12 8) <<< 12))))) (by kernel_rfl) (congrArg (Value.int .u64) (wrap_add (((getI x 21 10) <<< 1) + ((getI x 20 1) <<< 11)) ((getI x 12 8) <<< 12)))) ?_
  refine KS.p (.int .u32 (u x)) ?_
  refine KS.c (.int .u64 (u (getI x 31 1))) 56 #[.int .u32 (u x), .int .i64 31, .int .i64 1] M3 (get13_c x 31 1 w3) fun w4 M4 => ?_
  refine Kw.pure (.int .u64 (u ((getI x 31 1) <<< 20))) (by kernel_rfl) (Kw.eqv (v := .int .u64 (IntKind.u64.wrap ((u (getI x 31 1)) * 2 ^ 20))) (by kernel_rfl) (congrArg (Value.int .u64) (wrap64_shl (getI x 31 1) 20 (by omega)))) ?_
  refine Kw.pure (.int .u64 (u (((((getI x 21 10) <<< 1) + ((getI x 20 1) <<< 11)) + ((getI x 12 8) <<< 12)) + ((getI x 31 1) <<< 20)))) (by kernel_rfl) (Kw.eqv (v := .int .u64 (IntKind.u64.wrap ((u ((((getI x 21 10) <<< 1) + ((getI x 20 1) <<< 11)) + ((getI x 12 8) <<< 12))) + (u ((getI x 31 1) <<< 20))))) (by kernel_rfl) (congrArg (Value.int .u64) (wrap_add ((((getI x 21 10) <<< 1) + ((getI x 20 1) <<< 11)) + ((getI x 12 8) <<< 12)) ((getI x 31 1) <<< 20)))) ?_
  refine KS.c (.int .i64 (s (signI (((((getI x 21 10) <<< 1) + ((getI x 20 1) <<< 11)) + ((getI x 12 8) <<< 12)) + ((getI x 31 1) <<< 20)) 21))) 61 #[.int .u64 (u (((((getI x 21 10) <<< 1) + ((getI x 20 1) <<< 11)) + ((getI x 12 8) <<< 12)) + ((getI x 31 1) <<< 20))), .int .i64 21] M4 (signed_c (((((getI x 21 10) <<< 1) + ((getI x 20 1) <<< 11)) + ((getI x 12 8) <<< 12)) + ((getI x 31 1) <<< 20)) 21 w4) fun w5 M5 => ?_
  refine KS.p (.int .i64 (s (signI (((((getI x 21 10) <<< 1) + ((getI x 20 1) <<< 11)) + ((getI x 12 8) <<< 12)) + ((getI x 31 1) <<< 20)) 21))) ?_
  refine Kw.fin (Kw.then_normal (wp_ret (Kw.block_ret (Kw.then_ret ?_))))
  exact bodyPost_ret (v := .int .i64 (s (signI (((((getI x 21 10) <<< 1) + ((getI x 20 1) <<< 11)) + ((getI x 12 8) <<< 12)) + ((getI x 31 1) <<< 20)) 21))) (by kernel_rfl) (by kernel_rfl) ⟨congrArg (fun z => Ending.returned (Value.int .i64 z)) (imm_law_J k hs x), M5.drop⟩
theorem imm_law_N (k : Nat) (hs : sh k = 78) (x : BitVec 64) : (0 : Int) = s (immK k x) := by
  rw [immK_N k hs]; rfl
set_option maxRecDepth 100000 in
theorem imm_N (k : Nat) (hs : sh k = 78) (x : BitVec 64) (W : World) : Calls Try.prog 55 #[.int .u32 (u x), .int .u8 78] W fun e W' => e = .returned (.int .i64 (s (immK k x))) ∧ Kw.Mem [] W W' [] := by
  refine calls_of_wp Try.func55 rfl ?_
  have M0 : Kw.Mem [] W W [] := Kw.Mem.start _ _
  refine Kw.to (b := ⟨#[.int .u32 (u x), .int .u8 78, undef, undef, undef, undef, undef, undef, undef, undef, undef, undef, undef, undef, undef, undef, undef, undef, undef, undef, undef, undef, undef, undef, undef, undef, undef, undef, undef, undef, undef, undef, undef, undef, undef, undef, undef, undef, undef, undef, undef, undef, undef, undef, undef, undef, undef, undef, undef, undef, undef, undef, undef, undef, undef, undef, undef, undef, undef, undef, undef, undef, undef, undef, undef, undef, undef, undef, undef, undef, undef, undef], []⟩) (by kernel_rfl) ?_
  refine wp_seq (Kw.region ?_)
  refine KS.p (.int .i64 0) ?_
  refine KS.n5 ?_
  refine KS.p (.int .u8 78) ?_
  refine Kw.fin (Kw.then_normal (wp_block (wp_seq (Kw.region ?_))))
  refine KS.p (.bool false) ?_
  refine KS.p (.bool false) ?_
  refine KS.n2 ?_
  refine wp_cond_false (by kernel_rfl) ?_
  refine wp_seq (Kw.region ?_)
  refine KS.p (.bool false) ?_
  refine KS.p (.bool false) ?_
  refine KS.n2 ?_
  refine wp_cond_false (by kernel_rfl) ?_
  refine wp_seq (Kw.region ?_)
  refine KS.p (.bool false) ?_
  refine KS.p (.bool false) ?_
  refine KS.n2 ?_
  refine wp_cond_false (by kernel_rfl) ?_
  refine wp_seq (Kw.region ?_)
  refine KS.p (.bool false) ?_
  refine KS.p (.bool false) ?_
  refine KS.n2 ?_
  refine wp_cond_false (by kernel_rfl) ?_
  refine wp_seq (Kw.region ?_)
  refine KS.p (.bool false) ?_
  refine KS.p (.bool false) ?_
  refine KS.n2 ?_
  refine wp_cond_false (by kernel_rfl) ?_
  refine wp_seq (Kw.region ?_)
  refine KS.p (.bool false) ?_
  refine KS.p (.bool false) ?_
  refine KS.n2 ?_
  refine wp_cond_false (by kernel_rfl) ?_
  refine wp_seq (Kw.region ?_)
  refine KS.p (.bool false) ?_
  refine KS.p (.bool false) ?_
  refine KS.n2 ?_
  refine wp_cond_false (by kernel_rfl) ?_
  refine wp_skip (Kw.block_normal (Kw.then_normal (wp_seq (Kw.region ?_))))
  refine KS.p (.int .i64 0) ?_
  refine Kw.fin (Kw.then_normal (wp_ret ?_))
  exact bodyPost_ret (v := .int .i64 0) (by kernel_rfl) (by kernel_rfl) ⟨congrArg (fun z => Ending.returned (Value.int .i64 z)) (imm_law_N k hs x), M0.drop⟩
theorem imm_c (k : Nat) (hk : k < 69) (x : BitVec 64) (W : World) : Calls Try.prog 55 #[.int .u32 (u x), .int .u8 (sh k)] W fun e W' => e = .returned (.int .i64 (s (immK k x))) ∧ Kw.Mem [] W W' [] := by
  rcases shapes k hk with hs | hs | hs | hs | hs | hs | hs | hs | hs | hs
  · have h := imm_R k hs x W; rw [← hs] at h; exact h
  · have h := imm_G k hs x W; rw [← hs] at h; exact h
  · have h := imm_I k hs x W; rw [← hs] at h; exact h
  · have h := imm_C k hs x W; rw [← hs] at h; exact h
  · have h := imm_H k hs x W; rw [← hs] at h; exact h
  · have h := imm_S k hs x W; rw [← hs] at h; exact h
  · have h := imm_B k hs x W; rw [← hs] at h; exact h
  · have h := imm_U k hs x W; rw [← hs] at h; exact h
  · have h := imm_J k hs x W; rw [← hs] at h; exact h
  · have h := imm_N k hs x W; rw [← hs] at h; exact h
theorem dec_iff (k : Nat) (hk : k < 69) (x : BitVec 64) (xx : ∀ i, 32 ≤ i → i < 64 → x.getLsbD i = false) : (okB k (rdK k x) (rs1K k x) (rs2K k x) (immK k x) && (u (wordK k (rdK k x) (rs1K k x) (rs2K k x) (immK k x) &&& 4294967295#64) == u x)) = (x &&& fmk k == fwk k) := by
  rw [Bool.eq_iff_iff, Bool.and_eq_true, beq_iff_eq, beq_iff_eq]
  constructor
  · rintro ⟨_, h⟩
    have h := u_inj h
    have f := fixed_bits k hk (rdK k x) (rs1K k x) (rs2K k x) (immK k x)
    rw [h] at f
    exact f
  · intro h
    obtain ⟨h1, h2⟩ := enc_dec k hk x xx h
    exact ⟨h1, by rw [h2]⟩
theorem shape7 (k : Nat) : sh k = 83 ∨ sh k = 66 ∨ sh k = 78 ∨ sh k = 85 ∨ sh k = 74 ∨ sh k = 82 ∨ (sh k ≠ 83 ∧ sh k ≠ 66 ∧ sh k ≠ 78 ∧ sh k ≠ 85 ∧ sh k ≠ 74 ∧ sh k ≠ 82) := by
  by_cases h1 : sh k = 83 <;> by_cases h2 : sh k = 66 <;> by_cases h3 : sh k = 78 <;> by_cases h4 : sh k = 85 <;> by_cases h5 : sh k = 74 <;> by_cases h6 : sh k = 82 <;> simp [h1, h2, h3, h4, h5, h6]
theorem fields_O (k : Nat) (hk : k < 69) (h83 : sh k ≠ 83) (h66 : sh k ≠ 66) (h78 : sh k ≠ 78) (h85 : sh k ≠ 85) (h74 : sh k ≠ 74) (h82 : sh k ≠ 82) (x : BitVec 64) : rdK k x = getI x 7 5 ∧ rs1K k x = getI x 15 5 ∧ rs2K k x = 0#64 := by
  rcases shapes k hk with hs | hs | hs | hs | hs | hs | hs | hs | hs | hs
  · exact absurd hs h82
  · exact ⟨rdK_G k hs x, rs1K_G k hs x, rs2K_G k hs x⟩
  · exact ⟨rdK_I k hs x, rs1K_I k hs x, rs2K_I k hs x⟩
  · exact ⟨rdK_C k hs x, rs1K_C k hs x, rs2K_C k hs x⟩
  · exact ⟨rdK_H k hs x, rs1K_H k hs x, rs2K_H k hs x⟩
  · exact absurd hs h83
  · exact absurd hs h66
  · exact absurd hs h85
  · exact absurd hs h74
  · exact absurd hs h78
theorem renc_t (k : Nat) (hk : k < 69) (rd rs1 rs2 imm : BitVec 64) (W : World) : Calls Try.prog 26 #[.agg #[.int .i64 ((k + 1 : Nat) : Int), .int .i64 (s rd), .int .i64 (s rs1), .int .i64 (s rs2), .int .i64 (s imm)]] W fun e W' => e = .returned (.tuple #[.int .u32 (u (wordK k rd rs1 rs2 imm &&& 4294967295#64)), .bool (okB k rd rs1 rs2 imm)]) ∧ Kw.Mem [] W W' [] := by
  rcases shapes k hk with hs | hs | hs | hs | hs | hs | hs | hs | hs | hs
  · rw [wordK_R k hs, okB_R k hs]; exact renc_R k hk hs rd rs1 rs2 imm W
  · rw [wordK_G k hs, okB_G k hs]; exact renc_G k hk hs rd rs1 rs2 imm W
  · rw [wordK_I k hs, okB_I k hs]; exact renc_I k hk hs rd rs1 rs2 imm W
  · rw [wordK_C k hs, okB_C k hs]; exact renc_C k hk hs rd rs1 rs2 imm W
  · rw [wordK_H k hs, okB_H k hs]; exact renc_H k hk hs rd rs1 rs2 imm W
  · rw [wordK_S k hs, okB_S k hs]; exact renc_S k hk hs rd rs1 rs2 imm W
  · rw [wordK_B k hs, okB_B k hs]; exact renc_B k hk hs rd rs1 rs2 imm W
  · rw [wordK_U k hs, okB_U k hs]; exact renc_U k hk hs rd rs1 rs2 imm W
  · rw [wordK_J k hs, okB_J k hs]; exact renc_J k hk hs rd rs1 rs2 imm W
  · rw [wordK_N k hs, okB_N k hs]; exact renc_N k hk hs rd rs1 rs2 imm W
set_option maxRecDepth 100000 in
theorem renc_low (z : Int) (h : z < 1) (rd rs1 rs2 imm : BitVec 64) (W : World) : Calls Try.prog 26 #[.agg #[.int .i64 z, .int .i64 (s rd), .int .i64 (s rs1), .int .i64 (s rs2), .int .i64 (s imm)]] W fun e W' => e = .returned (.tuple #[.int .u32 0, .bool false]) ∧ Kw.Mem [] W W' [] := by
  refine calls_of_wp Try.func26 rfl ?_
  have M0 : Kw.Mem [] W W [] := Kw.Mem.start _ _
  refine Kw.to (b := ⟨#[.agg #[.int .i64 z, .int .i64 (s rd), .int .i64 (s rs1), .int .i64 (s rs2), .int .i64 (s imm)], undef, undef, undef, undef, undef, undef, undef, undef, undef, undef, undef, undef, undef, undef, undef, undef, undef, undef, undef, undef, undef, undef, undef, undef, undef, undef, undef, undef, undef, undef, undef, undef, undef, undef, undef, undef, undef, undef, undef, undef, undef, undef, undef, undef, undef, undef, undef, undef, undef, undef, undef, undef, undef, undef, undef, undef, undef, undef, undef, undef, undef, undef, undef, undef, undef, undef, undef, undef, undef, undef, undef, undef, undef, undef, undef, undef, undef, undef, undef, undef, undef, undef, undef, undef, undef, undef, undef, undef, undef, undef, undef, undef, undef, undef, undef, undef, undef, undef, undef, undef, undef, undef, undef, undef, undef, undef, undef, undef, undef, undef, undef, undef, undef, undef, undef, undef, undef, undef, undef, undef, undef, undef, undef, undef, undef, undef, undef, undef, undef, undef, undef, undef, undef, undef, undef, undef, undef, undef, undef, undef, undef, undef, undef, undef, undef, undef, undef, undef, undef, undef, undef, undef, undef, undef, undef, undef, undef, undef, undef, undef, undef, undef, undef, undef, undef, undef, undef, undef, undef, undef, undef, undef, undef, undef, undef, undef, undef, undef, undef, undef, undef, undef, undef, undef, undef, undef, undef, undef, undef, undef, undef, undef, undef, undef, undef, undef, undef, undef, undef, undef, undef, undef, undef, undef, undef, undef, undef, undef, undef, undef, undef, undef, undef, undef, undef, undef, undef, undef, undef, undef, undef, undef, undef, undef, undef, undef, undef, undef, undef, undef, undef, undef, undef, undef, undef, undef, undef, undef, undef, undef, undef, undef, undef, undef, undef, undef, undef, undef, undef, undef, undef, undef, undef, undef, undef, undef, undef, undef, undef, undef, undef, undef, undef, undef, undef, undef, undef, undef], []⟩) (by kernel_rfl) ?_
  refine wp_seq (Kw.region ?_)
  refine Kw.alloc #[.int .i64 z, .int .i64 (s rd), .int .i64 (s rs1), .int .i64 (s rs2), .int .i64 (s imm)] 41 M0 (by kernel_rfl) (by kernel_rfl) fun w1 B1 M1 => ?_
  refine KS.p (.int .u32 0) ?_
  refine KS.p (.bool false) ?_
  refine KS.n4 ?_
  refine Held.callN (fun B => (.slice (some ⟨B, 0, none⟩) 69 69)) 49 #[] rows32 79 M1 (by kernel_rfl) (by kernel_rfl) (rows32_c w1) fun w2 B2 M2 => ?_
  refine KS.p (.slice (some ⟨B2, 0, none⟩) 69 69) ?_
  refine KS.n5 ?_
  refine KS.p (.pointer (some ⟨B1, 0, none⟩)) ?_
  refine KS.l 3 B1 0 (.int .i64 z) M2 1 Try.underlying3 ?_
  refine Kw.pure (.bool true) (by kernel_rfl) (Kw.eqv (v := .bool (decide (z < (1 : Int)))) (by kernel_rfl) (by rw [decide_eq_true (by omega)])) ?_
  refine KS.p (.bool true) ?_
  refine KS.k ?_
  refine KS.k ?_
  refine KS.k ?_
  refine KS.k ?_
  refine KS.k ?_
  refine KS.p (.bool true) ?_
  refine KS.n2 ?_
  refine wp_cond_true (by kernel_rfl) ?_
  refine wp_seq (Kw.region ?_)
  refine KS.p (.int .u32 0) ?_
  refine KS.p (.bool false) ?_
  refine Kw.fin (Kw.then_normal (wp_ret (Kw.then_ret ?_)))
  exact bodyPost_ret (v := .tuple #[.int .u32 0, .bool false]) (by kernel_rfl) (by kernel_rfl) ⟨rfl, M2.drop⟩
set_option maxRecDepth 100000 in
theorem renc_high (z : Int) (h : 69 < z) (rd rs1 rs2 imm : BitVec 64) (W : World) : Calls Try.prog 26 #[.agg #[.int .i64 z, .int .i64 (s rd), .int .i64 (s rs1), .int .i64 (s rs2), .int .i64 (s imm)]] W fun e W' => e = .returned (.tuple #[.int .u32 0, .bool false]) ∧ Kw.Mem [] W W' [] := by
  refine calls_of_wp Try.func26 rfl ?_
  have M0 : Kw.Mem [] W W [] := Kw.Mem.start _ _
  refine Kw.to (b := ⟨#[.agg #[.int .i64 z, .int .i64 (s rd), .int .i64 (s rs1), .int .i64 (s rs2), .int .i64 (s imm)], undef, undef, undef, undef, undef, undef, undef, undef, undef, undef, undef, undef, undef, undef, undef, undef, undef, undef, undef, undef, undef, undef, undef, undef, undef, undef, undef, undef, undef, undef, undef, undef, undef, undef, undef, undef, undef, undef, undef, undef, undef, undef, undef, undef, undef, undef, undef, undef, undef, undef, undef, undef, undef, undef, undef, undef, undef, undef, undef, undef, undef, undef, undef, undef, undef, undef, undef, undef, undef, undef, undef, undef, undef, undef, undef, undef, undef, undef, undef, undef, undef, undef, undef, undef, undef, undef, undef, undef, undef, undef, undef, undef, undef, undef, undef, undef, undef, undef, undef, undef, undef, undef, undef, undef, undef, undef, undef, undef, undef, undef, undef, undef, undef, undef, undef, undef, undef, undef, undef, undef, undef, undef, undef, undef, undef, undef, undef, undef, undef, undef, undef, undef, undef, undef, undef, undef, undef, undef, undef, undef, undef, undef, undef, undef, undef, undef, undef, undef, undef, undef, undef, undef, undef, undef, undef, undef, undef, undef, undef, undef, undef, undef, undef, undef, undef, undef, undef, undef, undef, undef, undef, undef, undef, undef, undef, undef, undef, undef, undef, undef, undef, undef, undef, undef, undef, undef, undef, undef, undef, undef, undef, undef, undef, undef, undef, undef, undef, undef, undef, undef, undef, undef, undef, undef, undef, undef, undef, undef, undef, undef, undef, undef, undef, undef, undef, undef, undef, undef, undef, undef, undef, undef, undef, undef, undef, undef, undef, undef, undef, undef, undef, undef, undef, undef, undef, undef, undef, undef, undef, undef, undef, undef, undef, undef, undef, undef, undef, undef, undef, undef, undef, undef, undef, undef, undef, undef, undef, undef, undef, undef, undef, undef, undef, undef, undef, undef, undef, undef], []⟩) (by kernel_rfl) ?_
  refine wp_seq (Kw.region ?_)
  refine Kw.alloc #[.int .i64 z, .int .i64 (s rd), .int .i64 (s rs1), .int .i64 (s rs2), .int .i64 (s imm)] 41 M0 (by kernel_rfl) (by kernel_rfl) fun w1 B1 M1 => ?_
  refine KS.p (.int .u32 0) ?_
  refine KS.p (.bool false) ?_
  refine KS.n4 ?_
  refine Held.callN (fun B => (.slice (some ⟨B, 0, none⟩) 69 69)) 49 #[] rows32 79 M1 (by kernel_rfl) (by kernel_rfl) (rows32_c w1) fun w2 B2 M2 => ?_
  refine KS.p (.slice (some ⟨B2, 0, none⟩) 69 69) ?_
  refine KS.n5 ?_
  refine KS.p (.pointer (some ⟨B1, 0, none⟩)) ?_
  refine KS.l 3 B1 0 (.int .i64 z) M2 1 Try.underlying3 ?_
  refine Kw.pure (.bool false) (by kernel_rfl) (Kw.eqv (v := .bool (decide (z < (1 : Int)))) (by kernel_rfl) (by rw [decide_eq_false (by omega)])) ?_
  refine KS.p (.bool false) ?_
  refine KS.p (.pointer (some ⟨B1, 0, none⟩)) ?_
  refine KS.l 3 B1 0 (.int .i64 z) M2 1 Try.underlying3 ?_
  refine KS.p (.slice (some ⟨B2, 0, none⟩) 69 69) ?_
  refine KS.p (.int .i64 69) ?_
  refine Kw.pure (.bool true) (by kernel_rfl) (Kw.eqv (v := .bool (decide (z > (69 : Int)))) (by kernel_rfl) (by rw [decide_eq_true (by omega)])) ?_
  refine KS.p (.bool true) ?_
  refine KS.n2 ?_
  refine wp_cond_true (by kernel_rfl) ?_
  refine wp_seq (Kw.region ?_)
  refine KS.p (.int .u32 0) ?_
  refine KS.p (.bool false) ?_
  refine Kw.fin (Kw.then_normal (wp_ret (Kw.then_ret ?_)))
  exact bodyPost_ret (v := .tuple #[.int .u32 0, .bool false]) (by kernel_rfl) (by kernel_rfl) ⟨rfl, M2.drop⟩
theorem renc_no (z : Int) (h : z < 1 ∨ 69 < z) (rd rs1 rs2 imm : BitVec 64) (W : World) : Calls Try.prog 26 #[.agg #[.int .i64 z, .int .i64 (s rd), .int .i64 (s rs1), .int .i64 (s rs2), .int .i64 (s imm)]] W fun e W' => e = .returned (.tuple #[.int .u32 0, .bool false]) ∧ Kw.Mem [] W W' [] := by
  rcases h with h | h
  · exact renc_low z h rd rs1 rs2 imm W
  · exact renc_high z h rd rs1 rs2 imm W
theorem sh_cell (k : Nat) (hk : k < 69) : rows32[0 + k * 5 + 1]? = some (.int .u8 (sh k)) := Sl.cell_of (row32_s k hk rfl) 1 (by omega) _ rfl
end Go.Proofs.Ytpmpibcfmejbfaa.Inst
