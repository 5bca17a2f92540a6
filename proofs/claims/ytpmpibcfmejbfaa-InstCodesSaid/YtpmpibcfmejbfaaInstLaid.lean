/- Where the number in an instruction of each shape is: what the program's functions answer. No condition. -/
import Derived.Test.YtpmpibcfmejbfaaInstFieldC
import Derived.Test.YtpmpibcfmejbfaaKS
namespace Go.Proofs.Ytpmpibcfmejbfaa.Inst
open Go.RowKit Go.Proofs.Ytpmpibcfmejbfaa.Bits
attribute [local irreducible] Go.wpList
set_option linter.unusedVariables false
set_option maxRecDepth 100000 in
theorem laid_I (W : World) : Calls Try.prog 42 #[.int .u8 73] W fun e W' => ∃ B : Nat, e = .returned (.agg #[.slice (some ⟨B, 0, none⟩) 1 1, .int .i64 12, .bool true, .int .i64 0]) ∧ Kw.Mem [] W W' [(B, #[.int .i64 0, .int .i64 12, .int .i64 20], 89)] := by
  refine calls_of_wp Try.func42 rfl ?_
  have M0 : Kw.Mem [] W W [] := Kw.Mem.start _ _
  refine Kw.to (b := ⟨#[.int .u8 73, undef, undef, undef, undef, undef, undef, undef, undef, undef, undef, undef, undef, undef, undef, undef, undef, undef, undef, undef, undef, undef, undef, undef, undef, undef, undef, undef, undef, undef, undef, undef, undef, undef, undef, undef, undef, undef, undef, undef, undef, undef, undef, undef, undef], []⟩) (by kernel_rfl) ?_
  refine wp_seq (Kw.region ?_)
  refine Kw.alloc #[.slice none 0 0, .int .i64 0, .bool false, .int .i64 0] 64 M0 (by kernel_rfl) (by kernel_rfl) fun w1 B1 M1 => ?_
  refine KS.n5 ?_
  refine KS.p (.int .u8 73) ?_
  refine Kw.fin (Kw.then_normal (wp_block (wp_seq (wp_seq (Kw.region ?_)))))
  refine KS.p (.bool true) ?_
  refine KS.p (.bool true) ?_
  refine KS.n2 ?_
  refine wp_cond_true (by kernel_rfl) ?_
  refine wp_skip (Kw.then_normal ?_)
  refine wp_cond_true (by kernel_rfl) ?_
  refine wp_seq (Kw.region ?_)
  refine KS.p (.agg #[.int .i64 0, .int .i64 12, .int .i64 20]) ?_
  refine Kw.allocV (fun B => .slice (some ⟨B, 0, none⟩) 1 1) #[.int .i64 0, .int .i64 12, .int .i64 20] 89 M1 (by kernel_rfl) (by kernel_rfl) fun w2 B2 M2 => ?_
  refine KS.p (.int .u8 73) ?_
  refine KS.p (.bool true) ?_
  refine KS.p (.agg #[.slice (some ⟨B2, 0, none⟩) 1 1, .int .i64 12, .bool true, .int .i64 0]) ?_
  refine Kw.storeAll 1 64 #[.slice (some ⟨B2, 0, none⟩) 1 1, .int .i64 12, .bool true, .int .i64 0] M2 rfl (by kernel_rfl) (by kernel_rfl) (Eq.trans (b := 4) (by kernel_rfl) (by kernel_rfl)) (by kernel_rfl) (by kernel_rfl) fun w3 M3 => ?_
  refine Kw.fin (Kw.then_normal (wp_ret (Kw.block_ret (Kw.then_ret ?_))))
  have hr4 : (loadVar 64 ⟨B1, 0, none⟩).run Try.prog w3 = .ok (.agg #[.slice (some ⟨B2, 0, none⟩) 1 1, .int .i64 12, .bool true, .int .i64 0]) w3 := run_loadVar_row w3 B1 64 64 _ (0, 0) _ (M3.get 1 rfl) Try.underlying64 rfl (by kernel_rfl)
  refine Kw.toPost (b := ⟨#[.int .u8 73, undef, .pointer (some ⟨B1, 0, none⟩), .int .u8 73, .bool true, .bool true, undef, .agg #[.int .i64 0, .int .i64 12, .int .i64 20], .slice (some ⟨B2, 0, none⟩) 1 1, .int .u8 73, .bool true, .agg #[.slice (some ⟨B2, 0, none⟩) 1 1, .int .i64 12, .bool true, .int .i64 0], undef, undef, undef, undef, undef, undef, undef, undef, undef, undef, undef, undef, undef, undef, undef, undef, undef, undef, undef, undef, undef, undef, undef, undef, undef, undef, undef, undef, undef, undef, undef, undef, undef], []⟩) (by kernel_rfl) ?_
  exact bodyPost_ret (v := .agg #[.slice (some ⟨B2, 0, none⟩) 1 1, .int .i64 12, .bool true, .int .i64 0]) (by simp [results, Try.results42, asAddr, hr4]) rfl ⟨_, rfl, Held.mem_of M3 0 rfl⟩
set_option maxRecDepth 100000 in
theorem laid_C (W : World) : Calls Try.prog 42 #[.int .u8 67] W fun e W' => ∃ B : Nat, e = .returned (.agg #[.slice (some ⟨B, 0, none⟩) 1 1, .int .i64 12, .bool false, .int .i64 0]) ∧ Kw.Mem [] W W' [(B, #[.int .i64 0, .int .i64 12, .int .i64 20], 89)] := by
  refine calls_of_wp Try.func42 rfl ?_
  have M0 : Kw.Mem [] W W [] := Kw.Mem.start _ _
  refine Kw.to (b := ⟨#[.int .u8 67, undef, undef, undef, undef, undef, undef, undef, undef, undef, undef, undef, undef, undef, undef, undef, undef, undef, undef, undef, undef, undef, undef, undef, undef, undef, undef, undef, undef, undef, undef, undef, undef, undef, undef, undef, undef, undef, undef, undef, undef, undef, undef, undef, undef], []⟩) (by kernel_rfl) ?_
  refine wp_seq (Kw.region ?_)
  refine Kw.alloc #[.slice none 0 0, .int .i64 0, .bool false, .int .i64 0] 64 M0 (by kernel_rfl) (by kernel_rfl) fun w1 B1 M1 => ?_
  refine KS.n5 ?_
  refine KS.p (.int .u8 67) ?_
  refine Kw.fin (Kw.then_normal (wp_block (wp_seq (wp_seq (Kw.region ?_)))))
  refine KS.p (.bool false) ?_
  refine KS.p (.bool false) ?_
  refine KS.n2 ?_
  refine wp_cond_false (by kernel_rfl) ?_
  refine Kw.region ?_
  refine KS.p (.bool true) ?_
  refine KS.p (.bool true) ?_
  refine KS.n2 ?_
  refine wp_cond_true (by kernel_rfl) ?_
  refine wp_seq (Kw.region ?_)
  refine KS.p (.agg #[.int .i64 0, .int .i64 12, .int .i64 20]) ?_
  refine Kw.allocV (fun B => .slice (some ⟨B, 0, none⟩) 1 1) #[.int .i64 0, .int .i64 12, .int .i64 20] 89 M1 (by kernel_rfl) (by kernel_rfl) fun w2 B2 M2 => ?_
  refine KS.p (.int .u8 67) ?_
  refine KS.p (.bool false) ?_
  refine KS.p (.agg #[.slice (some ⟨B2, 0, none⟩) 1 1, .int .i64 12, .bool false, .int .i64 0]) ?_
  refine Kw.storeAll 1 64 #[.slice (some ⟨B2, 0, none⟩) 1 1, .int .i64 12, .bool false, .int .i64 0] M2 rfl (by kernel_rfl) (by kernel_rfl) (Eq.trans (b := 4) (by kernel_rfl) (by kernel_rfl)) (by kernel_rfl) (by kernel_rfl) fun w3 M3 => ?_
  refine Kw.fin (Kw.then_normal (wp_ret (Kw.block_ret (Kw.then_ret ?_))))
  have hr4 : (loadVar 64 ⟨B1, 0, none⟩).run Try.prog w3 = .ok (.agg #[.slice (some ⟨B2, 0, none⟩) 1 1, .int .i64 12, .bool false, .int .i64 0]) w3 := run_loadVar_row w3 B1 64 64 _ (0, 0) _ (M3.get 1 rfl) Try.underlying64 rfl (by kernel_rfl)
  refine Kw.toPost (b := ⟨#[.int .u8 67, undef, .pointer (some ⟨B1, 0, none⟩), .int .u8 67, .bool true, .bool false, .bool true, .agg #[.int .i64 0, .int .i64 12, .int .i64 20], .slice (some ⟨B2, 0, none⟩) 1 1, .int .u8 67, .bool false, .agg #[.slice (some ⟨B2, 0, none⟩) 1 1, .int .i64 12, .bool false, .int .i64 0], undef, undef, undef, undef, undef, undef, undef, undef, undef, undef, undef, undef, undef, undef, undef, undef, undef, undef, undef, undef, undef, undef, undef, undef, undef, undef, undef, undef, undef, undef, undef, undef, undef], []⟩) (by kernel_rfl) ?_
  exact bodyPost_ret (v := .agg #[.slice (some ⟨B2, 0, none⟩) 1 1, .int .i64 12, .bool false, .int .i64 0]) (by simp [results, Try.results42, asAddr, hr4]) rfl ⟨_, rfl, Held.mem_of M3 0 rfl⟩
set_option maxRecDepth 100000 in
theorem laid_H (W : World) : Calls Try.prog 42 #[.int .u8 72] W fun e W' => ∃ B : Nat, e = .returned (.agg #[.slice (some ⟨B, 0, none⟩) 1 1, .int .i64 6, .bool false, .int .i64 0]) ∧ Kw.Mem [] W W' [(B, #[.int .i64 0, .int .i64 6, .int .i64 20], 89)] := by
  refine calls_of_wp Try.func42 rfl ?_
  have M0 : Kw.Mem [] W W [] := Kw.Mem.start _ _
  refine Kw.to (b := ⟨#[.int .u8 72, undef, undef, undef, undef, undef, undef, undef, undef, undef, undef, undef, undef, undef, undef, undef, undef, undef, undef, undef, undef, undef, undef, undef, undef, undef, undef, undef, undef, undef, undef, undef, undef, undef, undef, undef, undef, undef, undef, undef, undef, undef, undef, undef, undef], []⟩) (by kernel_rfl) ?_
  refine wp_seq (Kw.region ?_)
  refine Kw.alloc #[.slice none 0 0, .int .i64 0, .bool false, .int .i64 0] 64 M0 (by kernel_rfl) (by kernel_rfl) fun w1 B1 M1 => ?_
  refine KS.n5 ?_
  refine KS.p (.int .u8 72) ?_
  refine Kw.fin (Kw.then_normal (wp_block (wp_seq (wp_seq (Kw.region ?_)))))
  refine KS.p (.bool false) ?_
  refine KS.p (.bool false) ?_
  refine KS.n2 ?_
  refine wp_cond_false (by kernel_rfl) ?_
  refine Kw.region ?_
  refine KS.p (.bool false) ?_
  refine KS.p (.bool false) ?_
  refine KS.n2 ?_
  refine wp_cond_false (by kernel_rfl) ?_
  refine wp_seq (Kw.region ?_)
  refine KS.p (.bool true) ?_
  refine KS.p (.bool true) ?_
  refine KS.n2 ?_
  refine wp_cond_true (by kernel_rfl) ?_
  refine wp_seq (Kw.region ?_)
  refine KS.p (.agg #[.int .i64 0, .int .i64 6, .int .i64 20]) ?_
  refine Kw.allocV (fun B => .slice (some ⟨B, 0, none⟩) 1 1) #[.int .i64 0, .int .i64 6, .int .i64 20] 89 M1 (by kernel_rfl) (by kernel_rfl) fun w2 B2 M2 => ?_
  refine KS.p (.agg #[.slice (some ⟨B2, 0, none⟩) 1 1, .int .i64 6, .bool false, .int .i64 0]) ?_
  refine Kw.storeAll 1 64 #[.slice (some ⟨B2, 0, none⟩) 1 1, .int .i64 6, .bool false, .int .i64 0] M2 rfl (by kernel_rfl) (by kernel_rfl) (Eq.trans (b := 4) (by kernel_rfl) (by kernel_rfl)) (by kernel_rfl) (by kernel_rfl) fun w3 M3 => ?_
  refine Kw.fin (Kw.then_normal (wp_ret (Kw.block_ret (Kw.then_ret ?_))))
  have hr4 : (loadVar 64 ⟨B1, 0, none⟩).run Try.prog w3 = .ok (.agg #[.slice (some ⟨B2, 0, none⟩) 1 1, .int .i64 6, .bool false, .int .i64 0]) w3 := run_loadVar_row w3 B1 64 64 _ (0, 0) _ (M3.get 1 rfl) Try.underlying64 rfl (by kernel_rfl)
  refine Kw.toPost (b := ⟨#[.int .u8 72, undef, .pointer (some ⟨B1, 0, none⟩), .int .u8 72, .bool false, .bool false, .bool false, undef, undef, undef, undef, undef, .bool true, .bool true, .agg #[.int .i64 0, .int .i64 6, .int .i64 20], .slice (some ⟨B2, 0, none⟩) 1 1, .agg #[.slice (some ⟨B2, 0, none⟩) 1 1, .int .i64 6, .bool false, .int .i64 0], undef, undef, undef, undef, undef, undef, undef, undef, undef, undef, undef, undef, undef, undef, undef, undef, undef, undef, undef, undef, undef, undef, undef, undef, undef, undef, undef, undef], []⟩) (by kernel_rfl) ?_
  exact bodyPost_ret (v := .agg #[.slice (some ⟨B2, 0, none⟩) 1 1, .int .i64 6, .bool false, .int .i64 0]) (by simp [results, Try.results42, asAddr, hr4]) rfl ⟨_, rfl, Held.mem_of M3 0 rfl⟩
set_option maxRecDepth 100000 in
theorem laid_S (W : World) : Calls Try.prog 42 #[.int .u8 83] W fun e W' => ∃ B : Nat, e = .returned (.agg #[.slice (some ⟨B, 0, none⟩) 2 2, .int .i64 12, .bool true, .int .i64 0]) ∧ Kw.Mem [] W W' [(B, #[.int .i64 0, .int .i64 5, .int .i64 7, .int .i64 5, .int .i64 7, .int .i64 25], 89)] := by
  refine calls_of_wp Try.func42 rfl ?_
  have M0 : Kw.Mem [] W W [] := Kw.Mem.start _ _
  refine Kw.to (b := ⟨#[.int .u8 83, undef, undef, undef, undef, undef, undef, undef, undef, undef, undef, undef, undef, undef, undef, undef, undef, undef, undef, undef, undef, undef, undef, undef, undef, undef, undef, undef, undef, undef, undef, undef, undef, undef, undef, undef, undef, undef, undef, undef, undef, undef, undef, undef, undef], []⟩) (by kernel_rfl) ?_
  refine wp_seq (Kw.region ?_)
  refine Kw.alloc #[.slice none 0 0, .int .i64 0, .bool false, .int .i64 0] 64 M0 (by kernel_rfl) (by kernel_rfl) fun w1 B1 M1 => ?_
  refine KS.n5 ?_
  refine KS.p (.int .u8 83) ?_
  refine Kw.fin (Kw.then_normal (wp_block (wp_seq (wp_seq (Kw.region ?_)))))
  refine KS.p (.bool false) ?_
  refine KS.p (.bool false) ?_
  refine KS.n2 ?_
  refine wp_cond_false (by kernel_rfl) ?_
  refine Kw.region ?_
  refine KS.p (.bool false) ?_
  refine KS.p (.bool false) ?_
  refine KS.n2 ?_
  refine wp_cond_false (by kernel_rfl) ?_
  refine wp_seq (Kw.region ?_)
  refine KS.p (.bool false) ?_
  refine KS.p (.bool false) ?_
  refine KS.n2 ?_
  refine wp_cond_false (by kernel_rfl) ?_
  refine wp_seq (Kw.region ?_)
  refine KS.p (.bool true) ?_
  refine KS.p (.bool true) ?_
  refine KS.n2 ?_
  refine wp_cond_true (by kernel_rfl) ?_
  refine wp_seq (Kw.region ?_)
  refine KS.p (.agg #[.int .i64 0, .int .i64 5, .int .i64 7]) ?_
  refine KS.p (.agg #[.int .i64 5, .int .i64 7, .int .i64 25]) ?_
  refine Kw.allocV (fun B => .slice (some ⟨B, 0, none⟩) 2 2) #[.int .i64 0, .int .i64 5, .int .i64 7, .int .i64 5, .int .i64 7, .int .i64 25] 89 M1 (by kernel_rfl) (by kernel_rfl) fun w2 B2 M2 => ?_
  refine KS.p (.agg #[.slice (some ⟨B2, 0, none⟩) 2 2, .int .i64 12, .bool true, .int .i64 0]) ?_
  refine Kw.storeAll 1 64 #[.slice (some ⟨B2, 0, none⟩) 2 2, .int .i64 12, .bool true, .int .i64 0] M2 rfl (by kernel_rfl) (by kernel_rfl) (Eq.trans (b := 4) (by kernel_rfl) (by kernel_rfl)) (by kernel_rfl) (by kernel_rfl) fun w3 M3 => ?_
  refine Kw.fin (Kw.then_normal (wp_ret (Kw.block_ret (Kw.then_ret ?_))))
  have hr4 : (loadVar 64 ⟨B1, 0, none⟩).run Try.prog w3 = .ok (.agg #[.slice (some ⟨B2, 0, none⟩) 2 2, .int .i64 12, .bool true, .int .i64 0]) w3 := run_loadVar_row w3 B1 64 64 _ (0, 0) _ (M3.get 1 rfl) Try.underlying64 rfl (by kernel_rfl)
  refine Kw.toPost (b := ⟨#[.int .u8 83, undef, .pointer (some ⟨B1, 0, none⟩), .int .u8 83, .bool false, .bool false, .bool false, undef, undef, undef, undef, undef, .bool false, .bool false, undef, undef, undef, .bool true, .bool true, .agg #[.int .i64 0, .int .i64 5, .int .i64 7], .agg #[.int .i64 5, .int .i64 7, .int .i64 25], .slice (some ⟨B2, 0, none⟩) 2 2, .agg #[.slice (some ⟨B2, 0, none⟩) 2 2, .int .i64 12, .bool true, .int .i64 0], undef, undef, undef, undef, undef, undef, undef, undef, undef, undef, undef, undef, undef, undef, undef, undef, undef, undef, undef, undef, undef, undef], []⟩) (by kernel_rfl) ?_
  exact bodyPost_ret (v := .agg #[.slice (some ⟨B2, 0, none⟩) 2 2, .int .i64 12, .bool true, .int .i64 0]) (by simp [results, Try.results42, asAddr, hr4]) rfl ⟨_, rfl, Held.mem_of M3 0 rfl⟩
set_option maxRecDepth 100000 in
theorem laid_B (W : World) : Calls Try.prog 42 #[.int .u8 66] W fun e W' => ∃ B : Nat, e = .returned (.agg #[.slice (some ⟨B, 0, none⟩) 4 4, .int .i64 13, .bool true, .int .i64 1]) ∧ Kw.Mem [] W W' [(B, #[.int .i64 1, .int .i64 4, .int .i64 8, .int .i64 5, .int .i64 6, .int .i64 25, .int .i64 11, .int .i64 1, .int .i64 7, .int .i64 12, .int .i64 1, .int .i64 31], 89)] := by
  refine calls_of_wp Try.func42 rfl ?_
  have M0 : Kw.Mem [] W W [] := Kw.Mem.start _ _
  refine Kw.to (b := ⟨#[.int .u8 66, undef, undef, undef, undef, undef, undef, undef, undef, undef, undef, undef, undef, undef, undef, undef, undef, undef, undef, undef, undef, undef, undef, undef, undef, undef, undef, undef, undef, undef, undef, undef, undef, undef, undef, undef, undef, undef, undef, undef, undef, undef, undef, undef, undef], []⟩) (by kernel_rfl) ?_
  refine wp_seq (Kw.region ?_)
  refine Kw.alloc #[.slice none 0 0, .int .i64 0, .bool false, .int .i64 0] 64 M0 (by kernel_rfl) (by kernel_rfl) fun w1 B1 M1 => ?_
  refine KS.n5 ?_
  refine KS.p (.int .u8 66) ?_
  refine Kw.fin (Kw.then_normal (wp_block (wp_seq (wp_seq (Kw.region ?_)))))
  refine KS.p (.bool false) ?_
  refine KS.p (.bool false) ?_
  refine KS.n2 ?_
  refine wp_cond_false (by kernel_rfl) ?_
  refine Kw.region ?_
  refine KS.p (.bool false) ?_
  refine KS.p (.bool false) ?_
  refine KS.n2 ?_
  refine wp_cond_false (by kernel_rfl) ?_
  refine wp_seq (Kw.region ?_)
  refine KS.p (.bool false) ?_
  refine KS.p (.bool false) ?_
  refine KS.n2 ?_
  refine wp_cond_false (by kernel_rfl) ?_
  refine wp_seq (Kw.region ?_)
  refine KS.p (.bool false) ?_
  refine KS.p (.bool false) ?_
  refine KS.n2 ?_
  refine wp_cond_false (by kernel_rfl) ?_
  refine wp_seq (Kw.region ?_)
  refine KS.p (.bool true) ?_
  refine KS.p (.bool true) ?_
  refine KS.n2 ?_
  refine wp_cond_true (by kernel_rfl) ?_
  refine wp_seq (Kw.region ?_)
  refine KS.p (.agg #[.int .i64 1, .int .i64 4, .int .i64 8]) ?_
  refine KS.p (.agg #[.int .i64 5, .int .i64 6, .int .i64 25]) ?_
  refine KS.p (.agg #[.int .i64 11, .int .i64 1, .int .i64 7]) ?_
  refine KS.p (.agg #[.int .i64 12, .int .i64 1, .int .i64 31]) ?_
  refine Kw.allocV (fun B => .slice (some ⟨B, 0, none⟩) 4 4) #[.int .i64 1, .int .i64 4, .int .i64 8, .int .i64 5, .int .i64 6, .int .i64 25, .int .i64 11, .int .i64 1, .int .i64 7, .int .i64 12, .int .i64 1, .int .i64 31] 89 M1 (by kernel_rfl) (by kernel_rfl) fun w2 B2 M2 => ?_
  refine KS.p (.agg #[.slice (some ⟨B2, 0, none⟩) 4 4, .int .i64 13, .bool true, .int .i64 1]) ?_
  refine Kw.storeAll 1 64 #[.slice (some ⟨B2, 0, none⟩) 4 4, .int .i64 13, .bool true, .int .i64 1] M2 rfl (by kernel_rfl) (by kernel_rfl) (Eq.trans (b := 4) (by kernel_rfl) (by kernel_rfl)) (by kernel_rfl) (by kernel_rfl) fun w3 M3 => ?_
  refine Kw.fin (Kw.then_normal (wp_ret (Kw.block_ret (Kw.then_ret ?_))))
  have hr4 : (loadVar 64 ⟨B1, 0, none⟩).run Try.prog w3 = .ok (.agg #[.slice (some ⟨B2, 0, none⟩) 4 4, .int .i64 13, .bool true, .int .i64 1]) w3 := run_loadVar_row w3 B1 64 64 _ (0, 0) _ (M3.get 1 rfl) Try.underlying64 rfl (by kernel_rfl)
  refine Kw.toPost (b := ⟨#[.int .u8 66, undef, .pointer (some ⟨B1, 0, none⟩), .int .u8 66, .bool false, .bool false, .bool false, undef, undef, undef, undef, undef, .bool false, .bool false, undef, undef, undef, .bool false, .bool false, undef, undef, undef, undef, .bool true, .bool true, .agg #[.int .i64 1, .int .i64 4, .int .i64 8], .agg #[.int .i64 5, .int .i64 6, .int .i64 25], .agg #[.int .i64 11, .int .i64 1, .int .i64 7], .agg #[.int .i64 12, .int .i64 1, .int .i64 31], .slice (some ⟨B2, 0, none⟩) 4 4, .agg #[.slice (some ⟨B2, 0, none⟩) 4 4, .int .i64 13, .bool true, .int .i64 1], undef, undef, undef, undef, undef, undef, undef, undef, undef, undef, undef, undef, undef, undef], []⟩) (by kernel_rfl) ?_
  exact bodyPost_ret (v := .agg #[.slice (some ⟨B2, 0, none⟩) 4 4, .int .i64 13, .bool true, .int .i64 1]) (by simp [results, Try.results42, asAddr, hr4]) rfl ⟨_, rfl, Held.mem_of M3 0 rfl⟩
set_option maxRecDepth 100000 in
theorem laid_U (W : World) : Calls Try.prog 42 #[.int .u8 85] W fun e W' => ∃ B : Nat, e = .returned (.agg #[.slice (some ⟨B, 0, none⟩) 1 1, .int .i64 32, .bool true, .int .i64 12]) ∧ Kw.Mem [] W W' [(B, #[.int .i64 12, .int .i64 20, .int .i64 12], 89)] := by
  refine calls_of_wp Try.func42 rfl ?_
  have M0 : Kw.Mem [] W W [] := Kw.Mem.start _ _
  refine Kw.to (b := ⟨#[.int .u8 85, undef, undef, undef, undef, undef, undef, undef, undef, undef, undef, undef, undef, undef, undef, undef, undef, undef, undef, undef, undef, undef, undef, undef, undef, undef, undef, undef, undef, undef, undef, undef, undef, undef, undef, undef, undef, undef, undef, undef, undef, undef, undef, undef, undef], []⟩) (by kernel_rfl) ?_
  refine wp_seq (Kw.region ?_)
  refine Kw.alloc #[.slice none 0 0, .int .i64 0, .bool false, .int .i64 0] 64 M0 (by kernel_rfl) (by kernel_rfl) fun w1 B1 M1 => ?_
  refine KS.n5 ?_
  refine KS.p (.int .u8 85) ?_
  refine Kw.fin (Kw.then_normal (wp_block (wp_seq (wp_seq (Kw.region ?_)))))
  refine KS.p (.bool false) ?_
  refine KS.p (.bool false) ?_
  refine KS.n2 ?_
  refine wp_cond_false (by kernel_rfl) ?_
  refine Kw.region ?_
  refine KS.p (.bool false) ?_
  refine KS.p (.bool false) ?_
  refine KS.n2 ?_
  refine wp_cond_false (by kernel_rfl) ?_
  refine wp_seq (Kw.region ?_)
  refine KS.p (.bool false) ?_
  refine KS.p (.bool false) ?_
  refine KS.n2 ?_
  refine wp_cond_false (by kernel_rfl) ?_
  refine wp_seq (Kw.region ?_)
  refine KS.p (.bool false) ?_
  refine KS.p (.bool false) ?_
  refine KS.n2 ?_
  refine wp_cond_false (by kernel_rfl) ?_
  refine wp_seq (Kw.region ?_)
  refine KS.p (.bool false) ?_
  refine KS.p (.bool false) ?_
  refine KS.n2 ?_
  refine wp_cond_false (by kernel_rfl) ?_
  refine wp_seq (Kw.region ?_)
  refine KS.p (.bool true) ?_
  refine KS.p (.bool true) ?_
  refine KS.n2 ?_
  refine wp_cond_true (by kernel_rfl) ?_
  refine wp_seq (Kw.region ?_)
  refine KS.p (.agg #[.int .i64 12, .int .i64 20, .int .i64 12]) ?_
  refine Kw.allocV (fun B => .slice (some ⟨B, 0, none⟩) 1 1) #[.int .i64 12, .int .i64 20, .int .i64 12] 89 M1 (by kernel_rfl) (by kernel_rfl) fun w2 B2 M2 => ?_
  refine KS.p (.agg #[.slice (some ⟨B2, 0, none⟩) 1 1, .int .i64 32, .bool true, .int .i64 12]) ?_
  refine Kw.storeAll 1 64 #[.slice (some ⟨B2, 0, none⟩) 1 1, .int .i64 32, .bool true, .int .i64 12] M2 rfl (by kernel_rfl) (by kernel_rfl) (Eq.trans (b := 4) (by kernel_rfl) (by kernel_rfl)) (by kernel_rfl) (by kernel_rfl) fun w3 M3 => ?_
  refine Kw.fin (Kw.then_normal (wp_ret (Kw.block_ret (Kw.then_ret ?_))))
  have hr4 : (loadVar 64 ⟨B1, 0, none⟩).run Try.prog w3 = .ok (.agg #[.slice (some ⟨B2, 0, none⟩) 1 1, .int .i64 32, .bool true, .int .i64 12]) w3 := run_loadVar_row w3 B1 64 64 _ (0, 0) _ (M3.get 1 rfl) Try.underlying64 rfl (by kernel_rfl)
  refine Kw.toPost (b := ⟨#[.int .u8 85, undef, .pointer (some ⟨B1, 0, none⟩), .int .u8 85, .bool false, .bool false, .bool false, undef, undef, undef, undef, undef, .bool false, .bool false, undef, undef, undef, .bool false, .bool false, undef, undef, undef, undef, .bool false, .bool false, undef, undef, undef, undef, undef, undef, .bool true, .bool true, .agg #[.int .i64 12, .int .i64 20, .int .i64 12], .slice (some ⟨B2, 0, none⟩) 1 1, .agg #[.slice (some ⟨B2, 0, none⟩) 1 1, .int .i64 32, .bool true, .int .i64 12], undef, undef, undef, undef, undef, undef, undef, undef, undef], []⟩) (by kernel_rfl) ?_
  exact bodyPost_ret (v := .agg #[.slice (some ⟨B2, 0, none⟩) 1 1, .int .i64 32, .bool true, .int .i64 12]) (by simp [results, Try.results42, asAddr, hr4]) rfl ⟨_, rfl, Held.mem_of M3 0 rfl⟩
set_option maxRecDepth 100000 in
theorem laid_J (W : World) : Calls Try.prog 42 #[.int .u8 74] W fun e W' => ∃ B : Nat, e = .returned (.agg #[.slice (some ⟨B, 0, none⟩) 4 4, .int .i64 21, .bool true, .int .i64 1]) ∧ Kw.Mem [] W W' [(B, #[.int .i64 12, .int .i64 8, .int .i64 12, .int .i64 11, .int .i64 1, .int .i64 20, .int .i64 1, .int .i64 10, .int .i64 21, .int .i64 20, .int .i64 1, .int .i64 31], 89)] := by
  refine calls_of_wp Try.func42 rfl ?_
  have M0 : Kw.Mem [] W W [] := Kw.Mem.start _ _
  refine Kw.to (b := ⟨#[.int .u8 74, undef, undef, undef, undef, undef, undef, undef, undef, undef, undef, undef, undef, undef, undef, undef, undef, undef, undef, undef, undef, undef, undef, undef, undef, undef, undef, undef, undef, undef, undef, undef, undef, undef, undef, undef, undef, undef, undef, undef, undef, undef, undef, undef, undef], []⟩) (by kernel_rfl) ?_
  refine wp_seq (Kw.region ?_)
  refine Kw.alloc #[.slice none 0 0, .int .i64 0, .bool false, .int .i64 0] 64 M0 (by kernel_rfl) (by kernel_rfl) fun w1 B1 M1 => ?_
  refine KS.n5 ?_
  refine KS.p (.int .u8 74) ?_
  refine Kw.fin (Kw.then_normal (wp_block (wp_seq (wp_seq (Kw.region ?_)))))
  refine KS.p (.bool false) ?_
  refine KS.p (.bool false) ?_
  refine KS.n2 ?_
  refine wp_cond_false (by kernel_rfl) ?_
  refine Kw.region ?_
  refine KS.p (.bool false) ?_
  refine KS.p (.bool false) ?_
  refine KS.n2 ?_
  refine wp_cond_false (by kernel_rfl) ?_
  refine wp_seq (Kw.region ?_)
  refine KS.p (.bool false) ?_
  refine KS.p (.bool false) ?_
  refine KS.n2 ?_
  refine wp_cond_false (by kernel_rfl) ?_
  refine wp_seq (Kw.region ?_)
  refine KS.p (.bool false) ?_
  refine KS.p (.bool false) ?_
  refine KS.n2 ?_
  refine wp_cond_false (by kernel_rfl) ?_
  refine wp_seq (Kw.region ?_)
  refine KS.p (.bool false) ?_
  refine KS.p (.bool false) ?_
  refine KS.n2 ?_
  refine wp_cond_false (by kernel_rfl) ?_
  refine wp_seq (Kw.region ?_)
  refine KS.p (.bool false) ?_
  refine KS.p (.bool false) ?_
  refine KS.n2 ?_
  refine wp_cond_false (by kernel_rfl) ?_
  refine wp_seq (Kw.region ?_)
  refine KS.p (.bool true) ?_
  refine KS.p (.bool true) ?_
  refine KS.n2 ?_
  refine wp_cond_true (by kernel_rfl) ?_
  refine wp_seq (Kw.region ?_)
  refine KS.p (.agg #[.int .i64 12, .int .i64 8, .int .i64 12]) ?_
  refine KS.p (.agg #[.int .i64 11, .int .i64 1, .int .i64 20]) ?_
  refine KS.p (.agg #[.int .i64 1, .int .i64 10, .int .i64 21]) ?_
  refine KS.p (.agg #[.int .i64 20, .int .i64 1, .int .i64 31]) ?_
  refine Kw.allocV (fun B => .slice (some ⟨B, 0, none⟩) 4 4) #[.int .i64 12, .int .i64 8, .int .i64 12, .int .i64 11, .int .i64 1, .int .i64 20, .int .i64 1, .int .i64 10, .int .i64 21, .int .i64 20, .int .i64 1, .int .i64 31] 89 M1 (by kernel_rfl) (by kernel_rfl) fun w2 B2 M2 => ?_
  refine KS.p (.agg #[.slice (some ⟨B2, 0, none⟩) 4 4, .int .i64 21, .bool true, .int .i64 1]) ?_
  refine Kw.storeAll 1 64 #[.slice (some ⟨B2, 0, none⟩) 4 4, .int .i64 21, .bool true, .int .i64 1] M2 rfl (by kernel_rfl) (by kernel_rfl) (Eq.trans (b := 4) (by kernel_rfl) (by kernel_rfl)) (by kernel_rfl) (by kernel_rfl) fun w3 M3 => ?_
  refine Kw.fin (Kw.then_normal (wp_ret (Kw.block_ret (Kw.then_ret ?_))))
  have hr4 : (loadVar 64 ⟨B1, 0, none⟩).run Try.prog w3 = .ok (.agg #[.slice (some ⟨B2, 0, none⟩) 4 4, .int .i64 21, .bool true, .int .i64 1]) w3 := run_loadVar_row w3 B1 64 64 _ (0, 0) _ (M3.get 1 rfl) Try.underlying64 rfl (by kernel_rfl)
  refine Kw.toPost (b := ⟨#[.int .u8 74, undef, .pointer (some ⟨B1, 0, none⟩), .int .u8 74, .bool false, .bool false, .bool false, undef, undef, undef, undef, undef, .bool false, .bool false, undef, undef, undef, .bool false, .bool false, undef, undef, undef, undef, .bool false, .bool false, undef, undef, undef, undef, undef, undef, .bool false, .bool false, undef, undef, undef, .bool true, .bool true, .agg #[.int .i64 12, .int .i64 8, .int .i64 12], .agg #[.int .i64 11, .int .i64 1, .int .i64 20], .agg #[.int .i64 1, .int .i64 10, .int .i64 21], .agg #[.int .i64 20, .int .i64 1, .int .i64 31], .slice (some ⟨B2, 0, none⟩) 4 4, .agg #[.slice (some ⟨B2, 0, none⟩) 4 4, .int .i64 21, .bool true, .int .i64 1], undef], []⟩) (by kernel_rfl) ?_
  exact bodyPost_ret (v := .agg #[.slice (some ⟨B2, 0, none⟩) 4 4, .int .i64 21, .bool true, .int .i64 1]) (by simp [results, Try.results42, asAddr, hr4]) rfl ⟨_, rfl, Held.mem_of M3 0 rfl⟩
set_option maxRecDepth 100000 in
theorem laid_R (W : World) : Calls Try.prog 42 #[.int .u8 82] W fun e W' => e = .returned (.agg #[.slice none 0 0, .int .i64 0, .bool false, .int .i64 0]) ∧ Kw.Mem [] W W' [] := by
  refine calls_of_wp Try.func42 rfl ?_
  have M0 : Kw.Mem [] W W [] := Kw.Mem.start _ _
  refine Kw.to (b := ⟨#[.int .u8 82, undef, undef, undef, undef, undef, undef, undef, undef, undef, undef, undef, undef, undef, undef, undef, undef, undef, undef, undef, undef, undef, undef, undef, undef, undef, undef, undef, undef, undef, undef, undef, undef, undef, undef, undef, undef, undef, undef, undef, undef, undef, undef, undef, undef], []⟩) (by kernel_rfl) ?_
  refine wp_seq (Kw.region ?_)
  refine Kw.alloc #[.slice none 0 0, .int .i64 0, .bool false, .int .i64 0] 64 M0 (by kernel_rfl) (by kernel_rfl) fun w1 B1 M1 => ?_
  refine KS.n5 ?_
  refine KS.p (.int .u8 82) ?_
  refine Kw.fin (Kw.then_normal (wp_block (wp_seq (wp_seq (Kw.region ?_)))))
  refine KS.p (.bool false) ?_
  refine KS.p (.bool false) ?_
  refine KS.n2 ?_
  refine wp_cond_false (by kernel_rfl) ?_
  refine Kw.region ?_
  refine KS.p (.bool false) ?_
  refine KS.p (.bool false) ?_
  refine KS.n2 ?_
  refine wp_cond_false (by kernel_rfl) ?_
  refine wp_seq (Kw.region ?_)
  refine KS.p (.bool false) ?_
  refine KS.p (.bool false) ?_
  refine KS.n2 ?_
  refine wp_cond_false (by kernel_rfl) ?_
  refine wp_seq (Kw.region ?_)
  refine KS.p (.bool false) ?_
  refine KS.p (.bool false) ?_
  refine KS.n2 ?_
  refine wp_cond_false (by kernel_rfl) ?_
  refine wp_seq (Kw.region ?_)
  refine KS.p (.bool false) ?_
  refine KS.p (.bool false) ?_
  refine KS.n2 ?_
  refine wp_cond_false (by kernel_rfl) ?_
  refine wp_seq (Kw.region ?_)
  refine KS.p (.bool false) ?_
  refine KS.p (.bool false) ?_
  refine KS.n2 ?_
  refine wp_cond_false (by kernel_rfl) ?_
  refine wp_seq (Kw.region ?_)
  refine KS.p (.bool false) ?_
  refine KS.p (.bool false) ?_
  refine KS.n2 ?_
  refine wp_cond_false (by kernel_rfl) ?_
  refine wp_skip (Kw.block_normal (Kw.then_normal (wp_seq (Kw.region ?_))))
  refine KS.p (.agg #[.slice none 0 0, .int .i64 0, .bool false, .int .i64 0]) ?_
  refine Kw.storeAll 0 64 #[.slice none 0 0, .int .i64 0, .bool false, .int .i64 0] M1 rfl (by kernel_rfl) (by kernel_rfl) rfl (by kernel_rfl) (by kernel_rfl) fun w2 M2 => ?_
  refine Kw.fin (Kw.then_normal (wp_ret ?_))
  have hr3 : (loadVar 64 ⟨B1, 0, none⟩).run Try.prog w2 = .ok (.agg #[.slice none 0 0, .int .i64 0, .bool false, .int .i64 0]) w2 := run_loadVar_row w2 B1 64 64 _ (0, 0) _ (M2.get 0 rfl) Try.underlying64 rfl (by kernel_rfl)
  refine Kw.toPost (b := ⟨#[.int .u8 82, undef, .pointer (some ⟨B1, 0, none⟩), .int .u8 82, .bool false, .bool false, .bool false, undef, undef, undef, undef, undef, .bool false, .bool false, undef, undef, undef, .bool false, .bool false, undef, undef, undef, undef, .bool false, .bool false, undef, undef, undef, undef, undef, undef, .bool false, .bool false, undef, undef, undef, .bool false, .bool false, undef, undef, undef, undef, undef, undef, .agg #[.slice none 0 0, .int .i64 0, .bool false, .int .i64 0]], []⟩) (by kernel_rfl) ?_
  exact bodyPost_ret (v := .agg #[.slice none 0 0, .int .i64 0, .bool false, .int .i64 0]) (by simp [results, Try.results42, asAddr, hr3]) rfl ⟨rfl, M2.drop⟩
set_option maxRecDepth 100000 in
theorem laid_G (W : World) : Calls Try.prog 42 #[.int .u8 71] W fun e W' => e = .returned (.agg #[.slice none 0 0, .int .i64 0, .bool false, .int .i64 0]) ∧ Kw.Mem [] W W' [] := by
  refine calls_of_wp Try.func42 rfl ?_
  have M0 : Kw.Mem [] W W [] := Kw.Mem.start _ _
  refine Kw.to (b := ⟨#[.int .u8 71, undef, undef, undef, undef, undef, undef, undef, undef, undef, undef, undef, undef, undef, undef, undef, undef, undef, undef, undef, undef, undef, undef, undef, undef, undef, undef, undef, undef, undef, undef, undef, undef, undef, undef, undef, undef, undef, undef, undef, undef, undef, undef, undef, undef], []⟩) (by kernel_rfl) ?_
  refine wp_seq (Kw.region ?_)
  refine Kw.alloc #[.slice none 0 0, .int .i64 0, .bool false, .int .i64 0] 64 M0 (by kernel_rfl) (by kernel_rfl) fun w1 B1 M1 => ?_
  refine KS.n5 ?_
  refine KS.p (.int .u8 71) ?_
  refine Kw.fin (Kw.then_normal (wp_block (wp_seq (wp_seq (Kw.region ?_)))))
  refine KS.p (.bool false) ?_
  refine KS.p (.bool false) ?_
  refine KS.n2 ?_
  refine wp_cond_false (by kernel_rfl) ?_
  refine Kw.region ?_
  refine KS.p (.bool false) ?_
  refine KS.p (.bool false) ?_
  refine KS.n2 ?_
  refine wp_cond_false (by kernel_rfl) ?_
  refine wp_seq (Kw.region ?_)
  refine KS.p (.bool false) ?_
  refine KS.p (.bool false) ?_
  refine KS.n2 ?_
  refine wp_cond_false (by kernel_rfl) ?_
  refine wp_seq (Kw.region ?_)
  refine KS.p (.bool false) ?_
  refine KS.p (.bool false) ?_
  refine KS.n2 ?_
  refine wp_cond_false (by kernel_rfl) ?_
  refine wp_seq (Kw.region ?_)
  refine KS.p (.bool false) ?_
  refine KS.p (.bool false) ?_
  refine KS.n2 ?_
  refine wp_cond_false (by kernel_rfl) ?_
  refine wp_seq (Kw.region ?_)
  refine KS.p (.bool false) ?_
  refine KS.p (.bool false) ?_
  refine KS.n2 ?_
  refine wp_cond_false (by kernel_rfl) ?_
  refine wp_seq (Kw.region ?_)
  refine KS.p (.bool false) ?_
  refine KS.p (.bool false) ?_
  refine KS.n2 ?_
  refine wp_cond_false (by kernel_rfl) ?_
  refine wp_skip (Kw.block_normal (Kw.then_normal (wp_seq (Kw.region ?_))))
  refine KS.p (.agg #[.slice none 0 0, .int .i64 0, .bool false, .int .i64 0]) ?_
  refine Kw.storeAll 0 64 #[.slice none 0 0, .int .i64 0, .bool false, .int .i64 0] M1 rfl (by kernel_rfl) (by kernel_rfl) rfl (by kernel_rfl) (by kernel_rfl) fun w2 M2 => ?_
  refine Kw.fin (Kw.then_normal (wp_ret ?_))
  have hr3 : (loadVar 64 ⟨B1, 0, none⟩).run Try.prog w2 = .ok (.agg #[.slice none 0 0, .int .i64 0, .bool false, .int .i64 0]) w2 := run_loadVar_row w2 B1 64 64 _ (0, 0) _ (M2.get 0 rfl) Try.underlying64 rfl (by kernel_rfl)
  refine Kw.toPost (b := ⟨#[.int .u8 71, undef, .pointer (some ⟨B1, 0, none⟩), .int .u8 71, .bool false, .bool false, .bool false, undef, undef, undef, undef, undef, .bool false, .bool false, undef, undef, undef, .bool false, .bool false, undef, undef, undef, undef, .bool false, .bool false, undef, undef, undef, undef, undef, undef, .bool false, .bool false, undef, undef, undef, .bool false, .bool false, undef, undef, undef, undef, undef, undef, .agg #[.slice none 0 0, .int .i64 0, .bool false, .int .i64 0]], []⟩) (by kernel_rfl) ?_
  exact bodyPost_ret (v := .agg #[.slice none 0 0, .int .i64 0, .bool false, .int .i64 0]) (by simp [results, Try.results42, asAddr, hr3]) rfl ⟨rfl, M2.drop⟩
set_option maxRecDepth 100000 in
theorem laid_N (W : World) : Calls Try.prog 42 #[.int .u8 78] W fun e W' => e = .returned (.agg #[.slice none 0 0, .int .i64 0, .bool false, .int .i64 0]) ∧ Kw.Mem [] W W' [] := by
  refine calls_of_wp Try.func42 rfl ?_
  have M0 : Kw.Mem [] W W [] := Kw.Mem.start _ _
  refine Kw.to (b := ⟨#[.int .u8 78, undef, undef, undef, undef, undef, undef, undef, undef, undef, undef, undef, undef, undef, undef, undef, undef, undef, undef, undef, undef, undef, undef, undef, undef, undef, undef, undef, undef, undef, undef, undef, undef, undef, undef, undef, undef, undef, undef, undef, undef, undef, undef, undef, undef], []⟩) (by kernel_rfl) ?_
  refine wp_seq (Kw.region ?_)
  refine Kw.alloc #[.slice none 0 0, .int .i64 0, .bool false, .int .i64 0] 64 M0 (by kernel_rfl) (by kernel_rfl) fun w1 B1 M1 => ?_
  refine KS.n5 ?_
  refine KS.p (.int .u8 78) ?_
  refine Kw.fin (Kw.then_normal (wp_block (wp_seq (wp_seq (Kw.region ?_)))))
  refine KS.p (.bool false) ?_
  refine KS.p (.bool false) ?_
  refine KS.n2 ?_
  refine wp_cond_false (by kernel_rfl) ?_
  refine Kw.region ?_
  refine KS.p (.bool false) ?_
  refine KS.p (.bool false) ?_
  refine KS.n2 ?_
  refine wp_cond_false (by kernel_rfl) ?_
  refine wp_seq (Kw.region ?_)
  refine KS.p (.bool false) ?_
  refine KS.p (.bool false) ?_
  refine KS.n2 ?_
  refine wp_cond_false (by kernel_rfl) ?_
  refine wp_seq (Kw.region ?_)
  refine KS.p (.bool false) ?_
  refine KS.p (.bool false) ?_
  refine KS.n2 ?_
  refine wp_cond_false (by kernel_rfl) ?_
  refine wp_seq (Kw.region ?_)
  refine KS.p (.bool false) ?_
  refine KS.p (.bool false) ?_
  refine KS.n2 ?_
  refine wp_cond_false (by kernel_rfl) ?_
  refine wp_seq (Kw.region ?_)
  refine KS.p (.bool false) ?_
  refine KS.p (.bool false) ?_
  refine KS.n2 ?_
  refine wp_cond_false (by kernel_rfl) ?_
  refine wp_seq (Kw.region ?_)
  refine KS.p (.bool false) ?_
  refine KS.p (.bool false) ?_
  refine KS.n2 ?_
  refine wp_cond_false (by kernel_rfl) ?_
  refine wp_skip (Kw.block_normal (Kw.then_normal (wp_seq (Kw.region ?_))))
  refine KS.p (.agg #[.slice none 0 0, .int .i64 0, .bool false, .int .i64 0]) ?_
  refine Kw.storeAll 0 64 #[.slice none 0 0, .int .i64 0, .bool false, .int .i64 0] M1 rfl (by kernel_rfl) (by kernel_rfl) rfl (by kernel_rfl) (by kernel_rfl) fun w2 M2 => ?_
  refine Kw.fin (Kw.then_normal (wp_ret ?_))
  have hr3 : (loadVar 64 ⟨B1, 0, none⟩).run Try.prog w2 = .ok (.agg #[.slice none 0 0, .int .i64 0, .bool false, .int .i64 0]) w2 := run_loadVar_row w2 B1 64 64 _ (0, 0) _ (M2.get 0 rfl) Try.underlying64 rfl (by kernel_rfl)
  refine Kw.toPost (b := ⟨#[.int .u8 78, undef, .pointer (some ⟨B1, 0, none⟩), .int .u8 78, .bool false, .bool false, .bool false, undef, undef, undef, undef, undef, .bool false, .bool false, undef, undef, undef, .bool false, .bool false, undef, undef, undef, undef, .bool false, .bool false, undef, undef, undef, undef, undef, undef, .bool false, .bool false, undef, undef, undef, .bool false, .bool false, undef, undef, undef, undef, undef, undef, .agg #[.slice none 0 0, .int .i64 0, .bool false, .int .i64 0]], []⟩) (by kernel_rfl) ?_
  exact bodyPost_ret (v := .agg #[.slice none 0 0, .int .i64 0, .bool false, .int .i64 0]) (by simp [results, Try.results42, asAddr, hr3]) rfl ⟨rfl, M2.drop⟩
set_option maxRecDepth 100000 in
theorem laid_Z (W : World) : Calls Try.prog 42 #[.int .u8 0] W fun e W' => e = .returned (.agg #[.slice none 0 0, .int .i64 0, .bool false, .int .i64 0]) ∧ Kw.Mem [] W W' [] := by
  refine calls_of_wp Try.func42 rfl ?_
  have M0 : Kw.Mem [] W W [] := Kw.Mem.start _ _
  refine Kw.to (b := ⟨#[.int .u8 0, undef, undef, undef, undef, undef, undef, undef, undef, undef, undef, undef, undef, undef, undef, undef, undef, undef, undef, undef, undef, undef, undef, undef, undef, undef, undef, undef, undef, undef, undef, undef, undef, undef, undef, undef, undef, undef, undef, undef, undef, undef, undef, undef, undef], []⟩) (by kernel_rfl) ?_
  refine wp_seq (Kw.region ?_)
  refine Kw.alloc #[.slice none 0 0, .int .i64 0, .bool false, .int .i64 0] 64 M0 (by kernel_rfl) (by kernel_rfl) fun w1 B1 M1 => ?_
  refine KS.n5 ?_
  refine KS.p (.int .u8 0) ?_
  refine Kw.fin (Kw.then_normal (wp_block (wp_seq (wp_seq (Kw.region ?_)))))
  refine KS.p (.bool false) ?_
  refine KS.p (.bool false) ?_
  refine KS.n2 ?_
  refine wp_cond_false (by kernel_rfl) ?_
  refine Kw.region ?_
  refine KS.p (.bool false) ?_
  refine KS.p (.bool false) ?_
  refine KS.n2 ?_
  refine wp_cond_false (by kernel_rfl) ?_
  refine wp_seq (Kw.region ?_)
  refine KS.p (.bool false) ?_
  refine KS.p (.bool false) ?_
  refine KS.n2 ?_
  refine wp_cond_false (by kernel_rfl) ?_
  refine wp_seq (Kw.region ?_)
  refine KS.p (.bool false) ?_
  refine KS.p (.bool false) ?_
  refine KS.n2 ?_
  refine wp_cond_false (by kernel_rfl) ?_
  refine wp_seq (Kw.region ?_)
  refine KS.p (.bool false) ?_
  refine KS.p (.bool false) ?_
  refine KS.n2 ?_
  refine wp_cond_false (by kernel_rfl) ?_
  refine wp_seq (Kw.region ?_)
  refine KS.p (.bool false) ?_
  refine KS.p (.bool false) ?_
  refine KS.n2 ?_
  refine wp_cond_false (by kernel_rfl) ?_
  refine wp_seq (Kw.region ?_)
  refine KS.p (.bool false) ?_
  refine KS.p (.bool false) ?_
  refine KS.n2 ?_
  refine wp_cond_false (by kernel_rfl) ?_
  refine wp_skip (Kw.block_normal (Kw.then_normal (wp_seq (Kw.region ?_))))
  refine KS.p (.agg #[.slice none 0 0, .int .i64 0, .bool false, .int .i64 0]) ?_
  refine Kw.storeAll 0 64 #[.slice none 0 0, .int .i64 0, .bool false, .int .i64 0] M1 rfl (by kernel_rfl) (by kernel_rfl) rfl (by kernel_rfl) (by kernel_rfl) fun w2 M2 => ?_
  refine Kw.fin (Kw.then_normal (wp_ret ?_))
  have hr3 : (loadVar 64 ⟨B1, 0, none⟩).run Try.prog w2 = .ok (.agg #[.slice none 0 0, .int .i64 0, .bool false, .int .i64 0]) w2 := run_loadVar_row w2 B1 64 64 _ (0, 0) _ (M2.get 0 rfl) Try.underlying64 rfl (by kernel_rfl)
  refine Kw.toPost (b := ⟨#[.int .u8 0, undef, .pointer (some ⟨B1, 0, none⟩), .int .u8 0, .bool false, .bool false, .bool false, undef, undef, undef, undef, undef, .bool false, .bool false, undef, undef, undef, .bool false, .bool false, undef, undef, undef, undef, .bool false, .bool false, undef, undef, undef, undef, undef, undef, .bool false, .bool false, undef, undef, undef, .bool false, .bool false, undef, undef, undef, undef, undef, undef, .agg #[.slice none 0 0, .int .i64 0, .bool false, .int .i64 0]], []⟩) (by kernel_rfl) ?_
  exact bodyPost_ret (v := .agg #[.slice none 0 0, .int .i64 0, .bool false, .int .i64 0]) (by simp [results, Try.results42, asAddr, hr3]) rfl ⟨rfl, M2.drop⟩
end Go.Proofs.Ytpmpibcfmejbfaa.Inst
