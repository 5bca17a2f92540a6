/- How the number in an instruction of each shape is read: what the program's functions answer. No condition. -/
import Derived.Test.YtpmpibcfmejbfaaInstFieldC
import Derived.Test.YtpmpibcfmejbfaaKS
namespace Go.Proofs.Ytpmpibcfmejbfaa.Inst
open Go.RowKit Go.Proofs.Ytpmpibcfmejbfaa.Bits
attribute [local irreducible] Go.wpList
set_option linter.unusedVariables false
set_option maxRecDepth 100000 in
theorem read_I (x : BitVec 64) (W : World) {S0 : List Nat} {W0 : World} (B : Nat) (hB : Kw.Mem S0 W0 W [(B, #[.int .i64 0, .int .i64 12, .int .i64 20], 89)]) : Calls Try.prog 54 #[.agg #[.slice (some ⟨B, 0, none⟩) 1 1, .int .i64 12, .bool true, .int .i64 0], .int .u64 (u x)] W fun e W' => e = .returned (.int .i64 (s (signI (putI 0#64 0 12 (getI x 20 12)) 12))) ∧ Kw.Mem [] W W' [] := by
  have hM : W.heap[B]? = some (.cells #[.int .i64 0, .int .i64 12, .int .i64 20] 89 (0, 0)) := hB.get 0 rfl
  refine calls_of_wp Try.func54 rfl ?_
  have M0 : Kw.Mem [B] W W [(B, #[.int .i64 0, .int .i64 12, .int .i64 20], 89)] := Kw.Mem.begin1 hM
  refine Kw.to (b := ⟨#[.agg #[.slice (some ⟨B, 0, none⟩) 1 1, .int .i64 12, .bool true, .int .i64 0], .int .u64 (u x), undef, undef, undef, undef, undef, undef, undef, undef, undef, undef, undef, undef, undef, undef, undef, undef, undef, undef, undef, undef, undef, undef, undef, undef, undef, undef, undef, undef, undef, undef, undef, undef, undef, undef], []⟩) (by kernel_rfl) ?_
  refine wp_seq (Kw.region ?_)
  refine Kw.alloc #[.slice (some ⟨B, 0, none⟩) 1 1, .int .i64 12, .bool true, .int .i64 0] 64 M0 (by kernel_rfl) (by kernel_rfl) fun w1 B1 M1 => ?_
  refine KS.p (.int .i64 0) ?_
  refine KS.n4 ?_
  refine KS.p (.int .u64 0) ?_
  refine KS.n5 ?_
  refine KS.p (.pointer (some ⟨B1, 0, none⟩)) ?_
  refine KS.l 62 B1 0 (.slice (some ⟨B, 0, none⟩) 1 1) M1 0 Try.underlying62 ?_
  refine KS.p (.int .i64 1) ?_
  refine KS.p (.int .i64 0) ?_
  refine Kw.fin (Kw.then_normal (wp_block ?_))
  refine wp_loop_rounds 2 ?_
  refine Kw.round_succ (wp_seq (Kw.region ?_))
  refine KS.p (.bool true) ?_
  refine Kw.fin (Kw.then_normal (wp_seq ?_))
  refine wp_cond_true (by kernel_rfl) ?_
  refine wp_skip (Kw.then_normal (wp_seq (wp_block (wp_seq (Kw.region ?_)))))
  refine KS.p (.pointer (some ⟨B, 0, none⟩)) ?_
  refine KS.la 89 B _ M1 1 Try.underlying89 ?_
  refine Kw.alloc #[.int .i64 0, .int .i64 0, .int .i64 0] 89 M1 (by kernel_rfl) (by kernel_rfl) fun w2 B2 M2 => ?_
  refine Kw.storeAll 0 89 #[.int .i64 0, .int .i64 12, .int .i64 20] M2 rfl (by kernel_rfl) (by kernel_rfl) (Eq.trans (b := 3) (by kernel_rfl) (by kernel_rfl)) (by kernel_rfl) (by kernel_rfl) fun w3 M3 => ?_
  refine KS.n2 ?_
  refine Canon.region_canon (I := fun w => Kw.Mem [B] W w [(B2, #[.int .i64 0, .int .i64 12, .int .i64 20], 89), (B1, #[.slice (some ⟨B, 0, none⟩) 1 1, .int .i64 12, .bool true, .int .i64 0], 64), (B, #[.int .i64 0, .int .i64 12, .int .i64 20], 89)]) (by kernel_rfl) (by decide +kernel) M3.drew' ?_
  refine KS.q (.int .u64 0) ?_
  refine KS.q (.pointer (some ⟨B2, 0, none⟩)) ?_
  refine KS.ql 3 B2 0 (.int .i64 0) 0 Try.underlying3 ?_
  refine KS.q (.pointer (some ⟨B2, 1, none⟩)) ?_
  refine KS.ql 3 B2 1 (.int .i64 12) 0 Try.underlying3 ?_
  refine KS.q (.int .u64 (u x)) ?_
  refine KS.q (.pointer (some ⟨B2, 2, none⟩)) ?_
  refine KS.ql 3 B2 2 (.int .i64 20) 0 Try.underlying3 ?_
  refine KS.q (.pointer (some ⟨B2, 1, none⟩)) ?_
  refine KS.ql 3 B2 1 (.int .i64 12) 0 Try.underlying3 ?_
  refine Canon.call (.int .u64 (u (getI x 20 12))) 36 #[.int .u64 (u x), .int .i64 20, .int .i64 12] (by kernel_rfl) (fun w => by kernel_rfl) (fun w hw => (get_c x 20 12 w).mono fun r w1 ⟨he, hb⟩ => ⟨he, hw.call hb⟩) ?_
  refine Canon.call (.int .u64 (u (putI 0#64 0 12 (getI x 20 12)))) 48 #[.int .u64 0, .int .i64 0, .int .i64 12, .int .u64 (u (getI x 20 12))] (by kernel_rfl) (fun w => by kernel_rfl) (fun w hw => (put_c 0#64 0 12 (getI x 20 12) w).mono fun r w1 ⟨he, hb⟩ => ⟨he, hw.call hb⟩) ?_
  refine KS.q (.int .u64 (u (putI 0#64 0 12 (getI x 20 12)))) ?_
  refine Canon.fin fun w4 M4 => ?_
  refine Kw.block_normal (Kw.then_normal (Kw.region ?_))
  refine KS.p (.int .i64 1) ?_
  refine KS.p (.int .i64 1) ?_
  refine Kw.fin (Kw.then_normal (Kw.round_succ (wp_seq (Kw.region ?_))))
  refine KS.p (.bool false) ?_
  refine Kw.fin (Kw.then_normal (wp_seq ?_))
  refine wp_cond_false (by kernel_rfl) ?_
  refine wp_exit (Kw.then_exit (Kw.then_exit (Kw.block_hit (Kw.then_normal (wp_seq (wp_seq (Kw.region ?_)))))))
  refine KS.p (.pointer (some ⟨B1, 2, none⟩)) ?_
  refine KS.l 4 B1 2 (.bool true) M4 1 Try.underlying4 ?_
  refine KS.n2 ?_
  refine wp_cond_true (by kernel_rfl) ?_
  refine Kw.region ?_
  refine KS.p (.int .u64 (u (putI 0#64 0 12 (getI x 20 12)))) ?_
  refine KS.p (.pointer (some ⟨B1, 1, none⟩)) ?_
  refine KS.l 3 B1 1 (.int .i64 12) M4 1 Try.underlying3 ?_
  refine KS.c (.int .u64 (u (signI (putI 0#64 0 12 (getI x 20 12)) 12))) 35 #[.int .u64 (u (putI 0#64 0 12 (getI x 20 12))), .int .i64 12] M4 (sign_c (putI 0#64 0 12 (getI x 20 12)) 12 w4) fun w5 M5 => ?_
  refine KS.p (.int .u64 (u (signI (putI 0#64 0 12 (getI x 20 12)) 12))) ?_
  refine KS.n4 ?_
  refine KS.p (.int .u64 (u (signI (putI 0#64 0 12 (getI x 20 12)) 12))) ?_
  refine Kw.pure (.int .i64 (s (signI (putI 0#64 0 12 (getI x 20 12)) 12))) (by kernel_rfl) (Kw.eqv (v := .int .i64 (IntKind.i64.wrap (u (signI (putI 0#64 0 12 (getI x 20 12)) 12)))) (by kernel_rfl) (congrArg (Value.int .i64) (wrapi_u (signI (putI 0#64 0 12 (getI x 20 12)) 12)))) ?_
  refine KS.p (.int .i64 (s (signI (putI 0#64 0 12 (getI x 20 12)) 12))) ?_
  refine Kw.fin (Kw.then_normal (wp_ret ?_))
  exact bodyPost_ret (v := .int .i64 (s (signI (putI 0#64 0 12 (getI x 20 12)) 12))) (by kernel_rfl) (by kernel_rfl) ⟨rfl, Held.ro_drop M5 2 rfl hM⟩
set_option maxRecDepth 100000 in
theorem read_C (x : BitVec 64) (W : World) {S0 : List Nat} {W0 : World} (B : Nat) (hB : Kw.Mem S0 W0 W [(B, #[.int .i64 0, .int .i64 12, .int .i64 20], 89)]) : Calls Try.prog 54 #[.agg #[.slice (some ⟨B, 0, none⟩) 1 1, .int .i64 12, .bool false, .int .i64 0], .int .u64 (u x)] W fun e W' => e = .returned (.int .i64 (s (putI 0#64 0 12 (getI x 20 12)))) ∧ Kw.Mem [] W W' [] := by
  have hM : W.heap[B]? = some (.cells #[.int .i64 0, .int .i64 12, .int .i64 20] 89 (0, 0)) := hB.get 0 rfl
  refine calls_of_wp Try.func54 rfl ?_
  have M0 : Kw.Mem [B] W W [(B, #[.int .i64 0, .int .i64 12, .int .i64 20], 89)] := Kw.Mem.begin1 hM
  refine Kw.to (b := ⟨#[.agg #[.slice (some ⟨B, 0, none⟩) 1 1, .int .i64 12, .bool false, .int .i64 0], .int .u64 (u x), undef, undef, undef, undef, undef, undef, undef, undef, undef, undef, undef, undef, undef, undef, undef, undef, undef, undef, undef, undef, undef, undef, undef, undef, undef, undef, undef, undef, undef, undef, undef, undef, undef, undef], []⟩) (by kernel_rfl) ?_
  refine wp_seq (Kw.region ?_)
  refine Kw.alloc #[.slice (some ⟨B, 0, none⟩) 1 1, .int .i64 12, .bool false, .int .i64 0] 64 M0 (by kernel_rfl) (by kernel_rfl) fun w1 B1 M1 => ?_
  refine KS.p (.int .i64 0) ?_
  refine KS.n4 ?_
  refine KS.p (.int .u64 0) ?_
  refine KS.n5 ?_
  refine KS.p (.pointer (some ⟨B1, 0, none⟩)) ?_
  refine KS.l 62 B1 0 (.slice (some ⟨B, 0, none⟩) 1 1) M1 0 Try.underlying62 ?_
  refine KS.p (.int .i64 1) ?_
  refine KS.p (.int .i64 0) ?_
  refine Kw.fin (Kw.then_normal (wp_block ?_))
  refine wp_loop_rounds 2 ?_
  refine Kw.round_succ (wp_seq (Kw.region ?_))
  refine KS.p (.bool true) ?_
  refine Kw.fin (Kw.then_normal (wp_seq ?_))
  refine wp_cond_true (by kernel_rfl) ?_
  refine wp_skip (Kw.then_normal (wp_seq (wp_block (wp_seq (Kw.region ?_)))))
  refine KS.p (.pointer (some ⟨B, 0, none⟩)) ?_
  refine KS.la 89 B _ M1 1 Try.underlying89 ?_
  refine Kw.alloc #[.int .i64 0, .int .i64 0, .int .i64 0] 89 M1 (by kernel_rfl) (by kernel_rfl) fun w2 B2 M2 => ?_
  refine Kw.storeAll 0 89 #[.int .i64 0, .int .i64 12, .int .i64 20] M2 rfl (by kernel_rfl) (by kernel_rfl) (Eq.trans (b := 3) (by kernel_rfl) (by kernel_rfl)) (by kernel_rfl) (by kernel_rfl) fun w3 M3 => ?_
  refine KS.n2 ?_
  refine Canon.region_canon (I := fun w => Kw.Mem [B] W w [(B2, #[.int .i64 0, .int .i64 12, .int .i64 20], 89), (B1, #[.slice (some ⟨B, 0, none⟩) 1 1, .int .i64 12, .bool false, .int .i64 0], 64), (B, #[.int .i64 0, .int .i64 12, .int .i64 20], 89)]) (by kernel_rfl) (by decide +kernel) M3.drew' ?_
  refine KS.q (.int .u64 0) ?_
  refine KS.q (.pointer (some ⟨B2, 0, none⟩)) ?_
  refine KS.ql 3 B2 0 (.int .i64 0) 0 Try.underlying3 ?_
  refine KS.q (.pointer (some ⟨B2, 1, none⟩)) ?_
  refine KS.ql 3 B2 1 (.int .i64 12) 0 Try.underlying3 ?_
  refine KS.q (.int .u64 (u x)) ?_
  refine KS.q (.pointer (some ⟨B2, 2, none⟩)) ?_
  refine KS.ql 3 B2 2 (.int .i64 20) 0 Try.underlying3 ?_
  refine KS.q (.pointer (some ⟨B2, 1, none⟩)) ?_
  refine KS.ql 3 B2 1 (.int .i64 12) 0 Try.underlying3 ?_
  refine Canon.call (.int .u64 (u (getI x 20 12))) 36 #[.int .u64 (u x), .int .i64 20, .int .i64 12] (by kernel_rfl) (fun w => by kernel_rfl) (fun w hw => (get_c x 20 12 w).mono fun r w1 ⟨he, hb⟩ => ⟨he, hw.call hb⟩) ?_
  refine Canon.call (.int .u64 (u (putI 0#64 0 12 (getI x 20 12)))) 48 #[.int .u64 0, .int .i64 0, .int .i64 12, .int .u64 (u (getI x 20 12))] (by kernel_rfl) (fun w => by kernel_rfl) (fun w hw => (put_c 0#64 0 12 (getI x 20 12) w).mono fun r w1 ⟨he, hb⟩ => ⟨he, hw.call hb⟩) ?_
  refine KS.q (.int .u64 (u (putI 0#64 0 12 (getI x 20 12)))) ?_
  refine Canon.fin fun w4 M4 => ?_
  refine Kw.block_normal (Kw.then_normal (Kw.region ?_))
  refine KS.p (.int .i64 1) ?_
  refine KS.p (.int .i64 1) ?_
  refine Kw.fin (Kw.then_normal (Kw.round_succ (wp_seq (Kw.region ?_))))
  refine KS.p (.bool false) ?_
  refine Kw.fin (Kw.then_normal (wp_seq ?_))
  refine wp_cond_false (by kernel_rfl) ?_
  refine wp_exit (Kw.then_exit (Kw.then_exit (Kw.block_hit (Kw.then_normal (wp_seq (wp_seq (Kw.region ?_)))))))
  refine KS.p (.pointer (some ⟨B1, 2, none⟩)) ?_
  refine KS.l 4 B1 2 (.bool false) M4 1 Try.underlying4 ?_
  refine KS.n2 ?_
  refine wp_cond_false (by kernel_rfl) ?_
  refine wp_skip (Kw.then_normal (wp_seq (Kw.region ?_)))
  refine KS.p (.int .u64 (u (putI 0#64 0 12 (getI x 20 12)))) ?_
  refine Kw.pure (.int .i64 (s (putI 0#64 0 12 (getI x 20 12)))) (by kernel_rfl) (Kw.eqv (v := .int .i64 (IntKind.i64.wrap (u (putI 0#64 0 12 (getI x 20 12))))) (by kernel_rfl) (congrArg (Value.int .i64) (wrapi_u (putI 0#64 0 12 (getI x 20 12))))) ?_
  refine KS.p (.int .i64 (s (putI 0#64 0 12 (getI x 20 12)))) ?_
  refine Kw.fin (Kw.then_normal (wp_ret ?_))
  exact bodyPost_ret (v := .int .i64 (s (putI 0#64 0 12 (getI x 20 12)))) (by kernel_rfl) (by kernel_rfl) ⟨rfl, Held.ro_drop M4 2 rfl hM⟩
set_option maxRecDepth 100000 in
theorem read_H (x : BitVec 64) (W : World) {S0 : List Nat} {W0 : World} (B : Nat) (hB : Kw.Mem S0 W0 W [(B, #[.int .i64 0, .int .i64 6, .int .i64 20], 89)]) : Calls Try.prog 54 #[.agg #[.slice (some ⟨B, 0, none⟩) 1 1, .int .i64 6, .bool false, .int .i64 0], .int .u64 (u x)] W fun e W' => e = .returned (.int .i64 (s (putI 0#64 0 6 (getI x 20 6)))) ∧ Kw.Mem [] W W' [] := by
  have hM : W.heap[B]? = some (.cells #[.int .i64 0, .int .i64 6, .int .i64 20] 89 (0, 0)) := hB.get 0 rfl
  refine calls_of_wp Try.func54 rfl ?_
  have M0 : Kw.Mem [B] W W [(B, #[.int .i64 0, .int .i64 6, .int .i64 20], 89)] := Kw.Mem.begin1 hM
  refine Kw.to (b := ⟨#[.agg #[.slice (some ⟨B, 0, none⟩) 1 1, .int .i64 6, .bool false, .int .i64 0], .int .u64 (u x), undef, undef, undef, undef, undef, undef, undef, undef, undef, undef, undef, undef, undef, undef, undef, undef, undef, undef, undef, undef, undef, undef, undef, undef, undef, undef, undef, undef, undef, undef, undef, undef, undef, undef], []⟩) (by kernel_rfl) ?_
  refine wp_seq (Kw.region ?_)
  refine Kw.alloc #[.slice (some ⟨B, 0, none⟩) 1 1, .int .i64 6, .bool false, .int .i64 0] 64 M0 (by kernel_rfl) (by kernel_rfl) fun w1 B1 M1 => ?_
  refine KS.p (.int .i64 0) ?_
  refine KS.n4 ?_
  refine KS.p (.int .u64 0) ?_
  refine KS.n5 ?_
  refine KS.p (.pointer (some ⟨B1, 0, none⟩)) ?_
  refine KS.l 62 B1 0 (.slice (some ⟨B, 0, none⟩) 1 1) M1 0 Try.underlying62 ?_
  refine KS.p (.int .i64 1) ?_
  refine KS.p (.int .i64 0) ?_
  refine Kw.fin (Kw.then_normal (wp_block ?_))
  refine wp_loop_rounds 2 ?_
  refine Kw.round_succ (wp_seq (Kw.region ?_))
  refine KS.p (.bool true) ?_
  refine Kw.fin (Kw.then_normal (wp_seq ?_))
  refine wp_cond_true (by kernel_rfl) ?_
  refine wp_skip (Kw.then_normal (wp_seq (wp_block (wp_seq (Kw.region ?_)))))
  refine KS.p (.pointer (some ⟨B, 0, none⟩)) ?_
  refine KS.la 89 B _ M1 1 Try.underlying89 ?_
  refine Kw.alloc #[.int .i64 0, .int .i64 0, .int .i64 0] 89 M1 (by kernel_rfl) (by kernel_rfl) fun w2 B2 M2 => ?_
  refine Kw.storeAll 0 89 #[.int .i64 0, .int .i64 6, .int .i64 20] M2 rfl (by kernel_rfl) (by kernel_rfl) (Eq.trans (b := 3) (by kernel_rfl) (by kernel_rfl)) (by kernel_rfl) (by kernel_rfl) fun w3 M3 => ?_
  refine KS.n2 ?_
  refine Canon.region_canon (I := fun w => Kw.Mem [B] W w [(B2, #[.int .i64 0, .int .i64 6, .int .i64 20], 89), (B1, #[.slice (some ⟨B, 0, none⟩) 1 1, .int .i64 6, .bool false, .int .i64 0], 64), (B, #[.int .i64 0, .int .i64 6, .int .i64 20], 89)]) (by kernel_rfl) (by decide +kernel) M3.drew' ?_
  refine KS.q (.int .u64 0) ?_
  refine KS.q (.pointer (some ⟨B2, 0, none⟩)) ?_
  refine KS.ql 3 B2 0 (.int .i64 0) 0 Try.underlying3 ?_
  refine KS.q (.pointer (some ⟨B2, 1, none⟩)) ?_
  refine KS.ql 3 B2 1 (.int .i64 6) 0 Try.underlying3 ?_
  refine KS.q (.int .u64 (u x)) ?_
  refine KS.q (.pointer (some ⟨B2, 2, none⟩)) ?_
  refine KS.ql 3 B2 2 (.int .i64 20) 0 Try.underlying3 ?_
  refine KS.q (.pointer (some ⟨B2, 1, none⟩)) ?_
  refine KS.ql 3 B2 1 (.int .i64 6) 0 Try.underlying3 ?_
  refine Canon.call (.int .u64 (u (getI x 20 6))) 36 #[.int .u64 (u x), .int .i64 20, .int .i64 6] (by kernel_rfl) (fun w => by kernel_rfl) (fun w hw => (get_c x 20 6 w).mono fun r w1 ⟨he, hb⟩ => ⟨he, hw.call hb⟩) ?_
  refine Canon.call (.int .u64 (u (putI 0#64 0 6 (getI x 20 6)))) 48 #[.int .u64 0, .int .i64 0, .int .i64 6, .int .u64 (u (getI x 20 6))] (by kernel_rfl) (fun w => by kernel_rfl) (fun w hw => (put_c 0#64 0 6 (getI x 20 6) w).mono fun r w1 ⟨he, hb⟩ => ⟨he, hw.call hb⟩) ?_
  refine KS.q (.int .u64 (u (putI 0#64 0 6 (getI x 20 6)))) ?_
  refine Canon.fin fun w4 M4 => ?_
  refine Kw.block_normal (Kw.then_normal (Kw.region ?_))
  refine KS.p (.int .i64 1) ?_
  refine KS.p (.int .i64 1) ?_
  refine Kw.fin (Kw.then_normal (Kw.round_succ (wp_seq (Kw.region ?_))))
  refine KS.p (.bool false) ?_
  refine Kw.fin (Kw.then_normal (wp_seq ?_))
  refine wp_cond_false (by kernel_rfl) ?_
  refine wp_exit (Kw.then_exit (Kw.then_exit (Kw.block_hit (Kw.then_normal (wp_seq (wp_seq (Kw.region ?_)))))))
  refine KS.p (.pointer (some ⟨B1, 2, none⟩)) ?_
  refine KS.l 4 B1 2 (.bool false) M4 1 Try.underlying4 ?_
  refine KS.n2 ?_
  refine wp_cond_false (by kernel_rfl) ?_
  refine wp_skip (Kw.then_normal (wp_seq (Kw.region ?_)))
  refine KS.p (.int .u64 (u (putI 0#64 0 6 (getI x 20 6)))) ?_
  refine Kw.pure (.int .i64 (s (putI 0#64 0 6 (getI x 20 6)))) (by kernel_rfl) (Kw.eqv (v := .int .i64 (IntKind.i64.wrap (u (putI 0#64 0 6 (getI x 20 6))))) (by kernel_rfl) (congrArg (Value.int .i64) (wrapi_u (putI 0#64 0 6 (getI x 20 6))))) ?_
  refine KS.p (.int .i64 (s (putI 0#64 0 6 (getI x 20 6)))) ?_
  refine Kw.fin (Kw.then_normal (wp_ret ?_))
  exact bodyPost_ret (v := .int .i64 (s (putI 0#64 0 6 (getI x 20 6)))) (by kernel_rfl) (by kernel_rfl) ⟨rfl, Held.ro_drop M4 2 rfl hM⟩
set_option maxRecDepth 100000 in
theorem read_S (x : BitVec 64) (W : World) {S0 : List Nat} {W0 : World} (B : Nat) (hB : Kw.Mem S0 W0 W [(B, #[.int .i64 0, .int .i64 5, .int .i64 7, .int .i64 5, .int .i64 7, .int .i64 25], 89)]) : Calls Try.prog 54 #[.agg #[.slice (some ⟨B, 0, none⟩) 2 2, .int .i64 12, .bool true, .int .i64 0], .int .u64 (u x)] W fun e W' => e = .returned (.int .i64 (s (signI (putI (putI 0#64 0 5 (getI x 7 5)) 5 7 (getI x 25 7)) 12))) ∧ Kw.Mem [] W W' [] := by
  have hM : W.heap[B]? = some (.cells #[.int .i64 0, .int .i64 5, .int .i64 7, .int .i64 5, .int .i64 7, .int .i64 25] 89 (0, 0)) := hB.get 0 rfl
  refine calls_of_wp Try.func54 rfl ?_
  have M0 : Kw.Mem [B] W W [(B, #[.int .i64 0, .int .i64 5, .int .i64 7, .int .i64 5, .int .i64 7, .int .i64 25], 89)] := Kw.Mem.begin1 hM
  refine Kw.to (b := ⟨#[.agg #[.slice (some ⟨B, 0, none⟩) 2 2, .int .i64 12, .bool true, .int .i64 0], .int .u64 (u x), undef, undef, undef, undef, undef, undef, undef, undef, undef, undef, undef, undef, undef, undef, undef, undef, undef, undef, undef, undef, undef, undef, undef, undef, undef, undef, undef, undef, undef, undef, undef, undef, undef, undef], []⟩) (by kernel_rfl) ?_
  refine wp_seq (Kw.region ?_)
  refine Kw.alloc #[.slice (some ⟨B, 0, none⟩) 2 2, .int .i64 12, .bool true, .int .i64 0] 64 M0 (by kernel_rfl) (by kernel_rfl) fun w1 B1 M1 => ?_
  refine KS.p (.int .i64 0) ?_
  refine KS.n4 ?_
  refine KS.p (.int .u64 0) ?_
  refine KS.n5 ?_
  refine KS.p (.pointer (some ⟨B1, 0, none⟩)) ?_
  refine KS.l 62 B1 0 (.slice (some ⟨B, 0, none⟩) 2 2) M1 0 Try.underlying62 ?_
  refine KS.p (.int .i64 2) ?_
  refine KS.p (.int .i64 0) ?_
  refine Kw.fin (Kw.then_normal (wp_block ?_))
  refine wp_loop_rounds 3 ?_
  refine Kw.round_succ (wp_seq (Kw.region ?_))
  refine KS.p (.bool true) ?_
  refine Kw.fin (Kw.then_normal (wp_seq ?_))
  refine wp_cond_true (by kernel_rfl) ?_
  refine wp_skip (Kw.then_normal (wp_seq (wp_block (wp_seq (Kw.region ?_)))))
  refine KS.p (.pointer (some ⟨B, 0, none⟩)) ?_
  refine KS.s (Canon.ldS 89 (.pointer (some ⟨B, 0, none⟩))) (.agg #[.int .i64 0, .int .i64 5, .int .i64 7]) (Kw.ld_mid 89 0 [.int .i64 0, .int .i64 5, .int .i64 7] (M1.get 1 rfl) (by kernel_rfl) _ Try.underlying89 rfl (by kernel_rfl)) ?_
  refine Kw.alloc #[.int .i64 0, .int .i64 0, .int .i64 0] 89 M1 (by kernel_rfl) (by kernel_rfl) fun w2 B2 M2 => ?_
  refine Kw.storeAll 0 89 #[.int .i64 0, .int .i64 5, .int .i64 7] M2 rfl (by kernel_rfl) (by kernel_rfl) (Eq.trans (b := 3) (by kernel_rfl) (by kernel_rfl)) (by kernel_rfl) (by kernel_rfl) fun w3 M3 => ?_
  refine KS.n2 ?_
  refine Canon.region_canon (I := fun w => Kw.Mem [B] W w [(B2, #[.int .i64 0, .int .i64 5, .int .i64 7], 89), (B1, #[.slice (some ⟨B, 0, none⟩) 2 2, .int .i64 12, .bool true, .int .i64 0], 64), (B, #[.int .i64 0, .int .i64 5, .int .i64 7, .int .i64 5, .int .i64 7, .int .i64 25], 89)]) (by kernel_rfl) (by decide +kernel) M3.drew' ?_
  refine KS.q (.int .u64 0) ?_
  refine KS.q (.pointer (some ⟨B2, 0, none⟩)) ?_
  refine KS.ql 3 B2 0 (.int .i64 0) 0 Try.underlying3 ?_
  refine KS.q (.pointer (some ⟨B2, 1, none⟩)) ?_
  refine KS.ql 3 B2 1 (.int .i64 5) 0 Try.underlying3 ?_
  refine KS.q (.int .u64 (u x)) ?_
  refine KS.q (.pointer (some ⟨B2, 2, none⟩)) ?_
  refine KS.ql 3 B2 2 (.int .i64 7) 0 Try.underlying3 ?_
  refine KS.q (.pointer (some ⟨B2, 1, none⟩)) ?_
  refine KS.ql 3 B2 1 (.int .i64 5) 0 Try.underlying3 ?_
  refine Canon.call (.int .u64 (u (getI x 7 5))) 36 #[.int .u64 (u x), .int .i64 7, .int .i64 5] (by kernel_rfl) (fun w => by kernel_rfl) (fun w hw => (get_c x 7 5 w).mono fun r w1 ⟨he, hb⟩ => ⟨he, hw.call hb⟩) ?_
  refine Canon.call (.int .u64 (u (putI 0#64 0 5 (getI x 7 5)))) 48 #[.int .u64 0, .int .i64 0, .int .i64 5, .int .u64 (u (getI x 7 5))] (by kernel_rfl) (fun w => by kernel_rfl) (fun w hw => (put_c 0#64 0 5 (getI x 7 5) w).mono fun r w1 ⟨he, hb⟩ => ⟨he, hw.call hb⟩) ?_
  refine KS.q (.int .u64 (u (putI 0#64 0 5 (getI x 7 5)))) ?_
  refine Canon.fin fun w4 M4 => ?_
  refine Kw.block_normal (Kw.then_normal (Kw.region ?_))
  refine KS.p (.int .i64 1) ?_
  refine KS.p (.int .i64 1) ?_
  refine Kw.fin (Kw.then_normal (Kw.round_succ (wp_seq (Kw.region ?_))))
  refine KS.p (.bool true) ?_
  refine Kw.fin (Kw.then_normal (wp_seq ?_))
  refine wp_cond_true (by kernel_rfl) ?_
  refine wp_skip (Kw.then_normal (wp_seq (wp_block (wp_seq (Kw.region ?_)))))
  refine KS.p (.pointer (some ⟨B, 3, none⟩)) ?_
  refine KS.s (Canon.ldS 89 (.pointer (some ⟨B, 3, none⟩))) (.agg #[.int .i64 5, .int .i64 7, .int .i64 25]) (Kw.ld_mid 89 3 [.int .i64 5, .int .i64 7, .int .i64 25] (M4.get 2 rfl) (by kernel_rfl) _ Try.underlying89 rfl (by kernel_rfl)) ?_
  refine Kw.alloc #[.int .i64 0, .int .i64 0, .int .i64 0] 89 M4 (by kernel_rfl) (by kernel_rfl) fun w5 B5 M5 => ?_
  refine Kw.storeAll 0 89 #[.int .i64 5, .int .i64 7, .int .i64 25] M5 rfl (by kernel_rfl) (by kernel_rfl) (Eq.trans (b := 3) (by kernel_rfl) (by kernel_rfl)) (by kernel_rfl) (by kernel_rfl) fun w6 M6 => ?_
  refine KS.n2 ?_
  refine Canon.region_canon (I := fun w => Kw.Mem [B] W w [(B5, #[.int .i64 5, .int .i64 7, .int .i64 25], 89), (B2, #[.int .i64 0, .int .i64 5, .int .i64 7], 89), (B1, #[.slice (some ⟨B, 0, none⟩) 2 2, .int .i64 12, .bool true, .int .i64 0], 64), (B, #[.int .i64 0, .int .i64 5, .int .i64 7, .int .i64 5, .int .i64 7, .int .i64 25], 89)]) (by kernel_rfl) (by decide +kernel) M6.drew' ?_
  refine KS.q (.int .u64 (u (putI 0#64 0 5 (getI x 7 5)))) ?_
  refine KS.q (.pointer (some ⟨B5, 0, none⟩)) ?_
  refine KS.ql 3 B5 0 (.int .i64 5) 0 Try.underlying3 ?_
  refine KS.q (.pointer (some ⟨B5, 1, none⟩)) ?_
  refine KS.ql 3 B5 1 (.int .i64 7) 0 Try.underlying3 ?_
  refine KS.q (.int .u64 (u x)) ?_
  refine KS.q (.pointer (some ⟨B5, 2, none⟩)) ?_
  refine KS.ql 3 B5 2 (.int .i64 25) 0 Try.underlying3 ?_
  refine KS.q (.pointer (some ⟨B5, 1, none⟩)) ?_
  refine KS.ql 3 B5 1 (.int .i64 7) 0 Try.underlying3 ?_
  refine Canon.call (.int .u64 (u (getI x 25 7))) 36 #[.int .u64 (u x), .int .i64 25, .int .i64 7] (by kernel_rfl) (fun w => by kernel_rfl) (fun w hw => (get_c x 25 7 w).mono fun r w1 ⟨he, hb⟩ => ⟨he, hw.call hb⟩) ?_
  refine Canon.call (.int .u64 (u (putI (putI 0#64 0 5 (getI x 7 5)) 5 7 (getI x 25 7)))) 48 #[.int .u64 (u (putI 0#64 0 5 (getI x 7 5))), .int .i64 5, .int .i64 7, .int .u64 (u (getI x 25 7))] (by kernel_rfl) (fun w => by kernel_rfl) (fun w hw => (put_c (putI 0#64 0 5 (getI x 7 5)) 5 7 (getI x 25 7) w).mono fun r w1 ⟨he, hb⟩ => ⟨he, hw.call hb⟩) ?_
  refine KS.q (.int .u64 (u (putI (putI 0#64 0 5 (getI x 7 5)) 5 7 (getI x 25 7)))) ?_
  refine Canon.fin fun w7 M7 => ?_
  refine Kw.block_normal (Kw.then_normal ?_)
  refine Kw.to (b := ⟨#[.agg #[.slice (some ⟨B, 0, none⟩) 2 2, .int .i64 12, .bool true, .int .i64 0], .int .u64 (u x), .pointer (some ⟨B1, 0, none⟩), undef, .int .i64 0, .int .u64 (u (putI (putI 0#64 0 5 (getI x 7 5)) 5 7 (getI x 25 7))), undef, .pointer (some ⟨B5, 0, none⟩), .pointer (some ⟨B1, 0, none⟩), .slice (some ⟨B, 0, none⟩) 2 2, .int .i64 2, .int .i64 1, .bool true, .pointer (some ⟨B, 3, none⟩), .agg #[.int .i64 5, .int .i64 7, .int .i64 25], .int .u64 (u (putI 0#64 0 5 (getI x 7 5))), .pointer (some ⟨B5, 0, none⟩), .int .i64 5, .pointer (some ⟨B5, 1, none⟩), .int .i64 7, .int .u64 (u x), .pointer (some ⟨B5, 2, none⟩), .int .i64 25, .pointer (some ⟨B5, 1, none⟩), .int .i64 7, .int .u64 (u (getI x 25 7)), .int .u64 (u (putI (putI 0#64 0 5 (getI x 7 5)) 5 7 (getI x 25 7))), .int .i64 1, undef, undef, undef, undef, undef, undef, undef, undef], []⟩) (by kernel_rfl) ?_
  refine Kw.region ?_
  refine KS.p (.int .i64 2) ?_
  refine KS.p (.int .i64 2) ?_
  refine Kw.fin (Kw.then_normal (Kw.round_succ (wp_seq (Kw.region ?_))))
  refine KS.p (.bool false) ?_
  refine Kw.fin (Kw.then_normal (wp_seq ?_))
  refine wp_cond_false (by kernel_rfl) ?_
  refine wp_exit (Kw.then_exit (Kw.then_exit (Kw.block_hit (Kw.then_normal (wp_seq (wp_seq (Kw.region ?_)))))))
  refine KS.p (.pointer (some ⟨B1, 2, none⟩)) ?_
  refine KS.l 4 B1 2 (.bool true) M7 2 Try.underlying4 ?_
  refine KS.n2 ?_
  refine wp_cond_true (by kernel_rfl) ?_
  refine Kw.region ?_
  refine KS.p (.int .u64 (u (putI (putI 0#64 0 5 (getI x 7 5)) 5 7 (getI x 25 7)))) ?_
  refine KS.p (.pointer (some ⟨B1, 1, none⟩)) ?_
  refine KS.l 3 B1 1 (.int .i64 12) M7 2 Try.underlying3 ?_
  refine KS.c (.int .u64 (u (signI (putI (putI 0#64 0 5 (getI x 7 5)) 5 7 (getI x 25 7)) 12))) 35 #[.int .u64 (u (putI (putI 0#64 0 5 (getI x 7 5)) 5 7 (getI x 25 7))), .int .i64 12] M7 (sign_c (putI (putI 0#64 0 5 (getI x 7 5)) 5 7 (getI x 25 7)) 12 w7) fun w8 M8 => ?_
  refine KS.p (.int .u64 (u (signI (putI (putI 0#64 0 5 (getI x 7 5)) 5 7 (getI x 25 7)) 12))) ?_
  refine KS.n4 ?_
  refine KS.p (.int .u64 (u (signI (putI (putI 0#64 0 5 (getI x 7 5)) 5 7 (getI x 25 7)) 12))) ?_
  refine Kw.pure (.int .i64 (s (signI (putI (putI 0#64 0 5 (getI x 7 5)) 5 7 (getI x 25 7)) 12))) (by kernel_rfl) (Kw.eqv (v := .int .i64 (IntKind.i64.wrap (u (signI (putI (putI 0#64 0 5 (getI x 7 5)) 5 7 (getI x 25 7)) 12)))) (by kernel_rfl) (congrArg (Value.int .i64) (wrapi_u (signI (putI (putI 0#64 0 5 (getI x 7 5)) 5 7 (getI x 25 7)) 12)))) ?_
  refine KS.p (.int .i64 (s (signI (putI (putI 0#64 0 5 (getI x 7 5)) 5 7 (getI x 25 7)) 12))) ?_
  refine Kw.fin (Kw.then_normal (wp_ret ?_))
  exact bodyPost_ret (v := .int .i64 (s (signI (putI (putI 0#64 0 5 (getI x 7 5)) 5 7 (getI x 25 7)) 12))) (by kernel_rfl) (by kernel_rfl) ⟨rfl, Held.ro_drop M8 3 rfl hM⟩
set_option maxRecDepth 100000 in
theorem read_B (x : BitVec 64) (W : World) {S0 : List Nat} {W0 : World} (B : Nat) (hB : Kw.Mem S0 W0 W [(B, #[.int .i64 1, .int .i64 4, .int .i64 8, .int .i64 5, .int .i64 6, .int .i64 25, .int .i64 11, .int .i64 1, .int .i64 7, .int .i64 12, .int .i64 1, .int .i64 31], 89)]) : Calls Try.prog 54 #[.agg #[.slice (some ⟨B, 0, none⟩) 4 4, .int .i64 13, .bool true, .int .i64 1], .int .u64 (u x)] W fun e W' => e = .returned (.int .i64 (s (signI (putI (putI (putI (putI 0#64 1 4 (getI x 8 4)) 5 6 (getI x 25 6)) 11 1 (getI x 7 1)) 12 1 (getI x 31 1)) 13))) ∧ Kw.Mem [] W W' [] := by
  have hM : W.heap[B]? = some (.cells #[.int .i64 1, .int .i64 4, .int .i64 8, .int .i64 5, .int .i64 6, .int .i64 25, .int .i64 11, .int .i64 1, .int .i64 7, .int .i64 12, .int .i64 1, .int .i64 31] 89 (0, 0)) := hB.get 0 rfl
  refine calls_of_wp Try.func54 rfl ?_
  have M0 : Kw.Mem [B] W W [(B, #[.int .i64 1, .int .i64 4, .int .i64 8, .int .i64 5, .int .i64 6, .int .i64 25, .int .i64 11, .int .i64 1, .int .i64 7, .int .i64 12, .int .i64 1, .int .i64 31], 89)] := Kw.Mem.begin1 hM
  refine Kw.to (b := ⟨#[.agg #[.slice (some ⟨B, 0, none⟩) 4 4, .int .i64 13, .bool true, .int .i64 1], .int .u64 (u x), undef, undef, undef, undef, undef, undef, undef, undef, undef, undef, undef, undef, undef, undef, undef, undef, undef, undef, undef, undef, undef, undef, undef, undef, undef, undef, undef, undef, undef, undef, undef, undef, undef, undef], []⟩) (by kernel_rfl) ?_
  refine wp_seq (Kw.region ?_)
  refine Kw.alloc #[.slice (some ⟨B, 0, none⟩) 4 4, .int .i64 13, .bool true, .int .i64 1] 64 M0 (by kernel_rfl) (by kernel_rfl) fun w1 B1 M1 => ?_
  refine KS.p (.int .i64 0) ?_
  refine KS.n4 ?_
  refine KS.p (.int .u64 0) ?_
  refine KS.n5 ?_
  refine KS.p (.pointer (some ⟨B1, 0, none⟩)) ?_
  refine KS.l 62 B1 0 (.slice (some ⟨B, 0, none⟩) 4 4) M1 0 Try.underlying62 ?_
  refine KS.p (.int .i64 4) ?_
  refine KS.p (.int .i64 0) ?_
  refine Kw.fin (Kw.then_normal (wp_block ?_))
  refine wp_loop_rounds 5 ?_
  refine Kw.round_succ (wp_seq (Kw.region ?_))
  refine KS.p (.bool true) ?_
  refine Kw.fin (Kw.then_normal (wp_seq ?_))
  refine wp_cond_true (by kernel_rfl) ?_
  refine wp_skip (Kw.then_normal (wp_seq (wp_block (wp_seq (Kw.region ?_)))))
  refine KS.p (.pointer (some ⟨B, 0, none⟩)) ?_
  refine KS.s (Canon.ldS 89 (.pointer (some ⟨B, 0, none⟩))) (.agg #[.int .i64 1, .int .i64 4, .int .i64 8]) (Kw.ld_mid 89 0 [.int .i64 1, .int .i64 4, .int .i64 8] (M1.get 1 rfl) (by kernel_rfl) _ Try.underlying89 rfl (by kernel_rfl)) ?_
  refine Kw.alloc #[.int .i64 0, .int .i64 0, .int .i64 0] 89 M1 (by kernel_rfl) (by kernel_rfl) fun w2 B2 M2 => ?_
  refine Kw.storeAll 0 89 #[.int .i64 1, .int .i64 4, .int .i64 8] M2 rfl (by kernel_rfl) (by kernel_rfl) (Eq.trans (b := 3) (by kernel_rfl) (by kernel_rfl)) (by kernel_rfl) (by kernel_rfl) fun w3 M3 => ?_
  refine KS.n2 ?_
  refine Canon.region_canon (I := fun w => Kw.Mem [B] W w [(B2, #[.int .i64 1, .int .i64 4, .int .i64 8], 89), (B1, #[.slice (some ⟨B, 0, none⟩) 4 4, .int .i64 13, .bool true, .int .i64 1], 64), (B, #[.int .i64 1, .int .i64 4, .int .i64 8, .int .i64 5, .int .i64 6, .int .i64 25, .int .i64 11, .int .i64 1, .int .i64 7, .int .i64 12, .int .i64 1, .int .i64 31], 89)]) (by kernel_rfl) (by decide +kernel) M3.drew' ?_
  refine KS.q (.int .u64 0) ?_
  refine KS.q (.pointer (some ⟨B2, 0, none⟩)) ?_
  refine KS.ql 3 B2 0 (.int .i64 1) 0 Try.underlying3 ?_
  refine KS.q (.pointer (some ⟨B2, 1, none⟩)) ?_
  refine KS.ql 3 B2 1 (.int .i64 4) 0 Try.underlying3 ?_
  refine KS.q (.int .u64 (u x)) ?_
  refine KS.q (.pointer (some ⟨B2, 2, none⟩)) ?_
  refine KS.ql 3 B2 2 (.int .i64 8) 0 Try.underlying3 ?_
  refine KS.q (.pointer (some ⟨B2, 1, none⟩)) ?_
  refine KS.ql 3 B2 1 (.int .i64 4) 0 Try.underlying3 ?_
  refine Canon.call (.int .u64 (u (getI x 8 4))) 36 #[.int .u64 (u x), .int .i64 8, .int .i64 4] (by kernel_rfl) (fun w => by kernel_rfl) (fun w hw => (get_c x 8 4 w).mono fun r w1 ⟨he, hb⟩ => ⟨he, hw.call hb⟩) ?_
  refine Canon.call (.int .u64 (u (putI 0#64 1 4 (getI x 8 4)))) 48 #[.int .u64 0, .int .i64 1, .int .i64 4, .int .u64 (u (getI x 8 4))] (by kernel_rfl) (fun w => by kernel_rfl) (fun w hw => (put_c 0#64 1 4 (getI x 8 4) w).mono fun r w1 ⟨he, hb⟩ => ⟨he, hw.call hb⟩) ?_
  refine KS.q (.int .u64 (u (putI 0#64 1 4 (getI x 8 4)))) ?_
  refine Canon.fin fun w4 M4 => ?_
  refine Kw.block_normal (Kw.then_normal (Kw.region ?_))
  refine KS.p (.int .i64 1) ?_
  refine KS.p (.int .i64 1) ?_
  refine Kw.fin (Kw.then_normal (Kw.round_succ (wp_seq (Kw.region ?_))))
  refine KS.p (.bool true) ?_
  refine Kw.fin (Kw.then_normal (wp_seq ?_))
  refine wp_cond_true (by kernel_rfl) ?_
  refine wp_skip (Kw.then_normal (wp_seq (wp_block (wp_seq (Kw.region ?_)))))
  refine KS.p (.pointer (some ⟨B, 3, none⟩)) ?_
  refine KS.s (Canon.ldS 89 (.pointer (some ⟨B, 3, none⟩))) (.agg #[.int .i64 5, .int .i64 6, .int .i64 25]) (Kw.ld_mid 89 3 [.int .i64 5, .int .i64 6, .int .i64 25] (M4.get 2 rfl) (by kernel_rfl) _ Try.underlying89 rfl (by kernel_rfl)) ?_
  refine Kw.alloc #[.int .i64 0, .int .i64 0, .int .i64 0] 89 M4 (by kernel_rfl) (by kernel_rfl) fun w5 B5 M5 => ?_
  refine Kw.storeAll 0 89 #[.int .i64 5, .int .i64 6, .int .i64 25] M5 rfl (by kernel_rfl) (by kernel_rfl) (Eq.trans (b := 3) (by kernel_rfl) (by kernel_rfl)) (by kernel_rfl) (by kernel_rfl) fun w6 M6 => ?_
  refine KS.n2 ?_
  refine Canon.region_canon (I := fun w => Kw.Mem [B] W w [(B5, #[.int .i64 5, .int .i64 6, .int .i64 25], 89), (B2, #[.int .i64 1, .int .i64 4, .int .i64 8], 89), (B1, #[.slice (some ⟨B, 0, none⟩) 4 4, .int .i64 13, .bool true, .int .i64 1], 64), (B, #[.int .i64 1, .int .i64 4, .int .i64 8, .int .i64 5, .int .i64 6, .int .i64 25, .int .i64 11, .int .i64 1, .int .i64 7, .int .i64 12, .int .i64 1, .int .i64 31], 89)]) (by kernel_rfl) (by decide +kernel) M6.drew' ?_
  refine KS.q (.int .u64 (u (putI 0#64 1 4 (getI x 8 4)))) ?_
  refine KS.q (.pointer (some ⟨B5, 0, none⟩)) ?_
  refine KS.ql 3 B5 0 (.int .i64 5) 0 Try.underlying3 ?_
  refine KS.q (.pointer (some ⟨B5, 1, none⟩)) ?_
  refine KS.ql 3 B5 1 (.int .i64 6) 0 Try.underlying3 ?_
  refine KS.q (.int .u64 (u x)) ?_
  refine KS.q (.pointer (some ⟨B5, 2, none⟩)) ?_
  refine KS.ql 3 B5 2 (.int .i64 25) 0 Try.underlying3 ?_
  refine KS.q (.pointer (some ⟨B5, 1, none⟩)) ?_
  refine KS.ql 3 B5 1 (.int .i64 6) 0 Try.underlying3 ?_
  refine Canon.call (.int .u64 (u (getI x 25 6))) 36 #[.int .u64 (u x), .int .i64 25, .int .i64 6] (by kernel_rfl) (fun w => by kernel_rfl) (fun w hw => (get_c x 25 6 w).mono fun r w1 ⟨he, hb⟩ => ⟨he, hw.call hb⟩) ?_
  refine Canon.call (.int .u64 (u (putI (putI 0#64 1 4 (getI x 8 4)) 5 6 (getI x 25 6)))) 48 #[.int .u64 (u (putI 0#64 1 4 (getI x 8 4))), .int .i64 5, .int .i64 6, .int .u64 (u (getI x 25 6))] (by kernel_rfl) (fun w => by kernel_rfl) (fun w hw => (put_c (putI 0#64 1 4 (getI x 8 4)) 5 6 (getI x 25 6) w).mono fun r w1 ⟨he, hb⟩ => ⟨he, hw.call hb⟩) ?_
  refine KS.q (.int .u64 (u (putI (putI 0#64 1 4 (getI x 8 4)) 5 6 (getI x 25 6)))) ?_
  refine Canon.fin fun w7 M7 => ?_
  refine Kw.block_normal (Kw.then_normal ?_)
  refine Kw.to (b := ⟨#[.agg #[.slice (some ⟨B, 0, none⟩) 4 4, .int .i64 13, .bool true, .int .i64 1], .int .u64 (u x), .pointer (some ⟨B1, 0, none⟩), undef, .int .i64 0, .int .u64 (u (putI (putI 0#64 1 4 (getI x 8 4)) 5 6 (getI x 25 6))), undef, .pointer (some ⟨B5, 0, none⟩), .pointer (some ⟨B1, 0, none⟩), .slice (some ⟨B, 0, none⟩) 4 4, .int .i64 4, .int .i64 1, .bool true, .pointer (some ⟨B, 3, none⟩), .agg #[.int .i64 5, .int .i64 6, .int .i64 25], .int .u64 (u (putI 0#64 1 4 (getI x 8 4))), .pointer (some ⟨B5, 0, none⟩), .int .i64 5, .pointer (some ⟨B5, 1, none⟩), .int .i64 6, .int .u64 (u x), .pointer (some ⟨B5, 2, none⟩), .int .i64 25, .pointer (some ⟨B5, 1, none⟩), .int .i64 6, .int .u64 (u (getI x 25 6)), .int .u64 (u (putI (putI 0#64 1 4 (getI x 8 4)) 5 6 (getI x 25 6))), .int .i64 1, undef, undef, undef, undef, undef, undef, undef, undef], []⟩) (by kernel_rfl) ?_
  refine Kw.region ?_
  refine KS.p (.int .i64 2) ?_
  refine KS.p (.int .i64 2) ?_
  refine Kw.fin (Kw.then_normal (Kw.round_succ (wp_seq (Kw.region ?_))))
  refine KS.p (.bool true) ?_
  refine Kw.fin (Kw.then_normal (wp_seq ?_))
  refine wp_cond_true (by kernel_rfl) ?_
  refine wp_skip (Kw.then_normal (wp_seq (wp_block (wp_seq (Kw.region ?_)))))
  refine KS.p (.pointer (some ⟨B, 6, none⟩)) ?_
  refine KS.s (Canon.ldS 89 (.pointer (some ⟨B, 6, none⟩))) (.agg #[.int .i64 11, .int .i64 1, .int .i64 7]) (Kw.ld_mid 89 6 [.int .i64 11, .int .i64 1, .int .i64 7] (M7.get 3 rfl) (by kernel_rfl) _ Try.underlying89 rfl (by kernel_rfl)) ?_
  refine Kw.alloc #[.int .i64 0, .int .i64 0, .int .i64 0] 89 M7 (by kernel_rfl) (by kernel_rfl) fun w8 B8 M8 => ?_
  refine Kw.storeAll 0 89 #[.int .i64 11, .int .i64 1, .int .i64 7] M8 rfl (by kernel_rfl) (by kernel_rfl) (Eq.trans (b := 3) (by kernel_rfl) (by kernel_rfl)) (by kernel_rfl) (by kernel_rfl) fun w9 M9 => ?_
  refine KS.n2 ?_
  refine Canon.region_canon (I := fun w => Kw.Mem [B] W w [(B8, #[.int .i64 11, .int .i64 1, .int .i64 7], 89), (B5, #[.int .i64 5, .int .i64 6, .int .i64 25], 89), (B2, #[.int .i64 1, .int .i64 4, .int .i64 8], 89), (B1, #[.slice (some ⟨B, 0, none⟩) 4 4, .int .i64 13, .bool true, .int .i64 1], 64), (B, #[.int .i64 1, .int .i64 4, .int .i64 8, .int .i64 5, .int .i64 6, .int .i64 25, .int .i64 11, .int .i64 1, .int .i64 7, .int .i64 12, .int .i64 1, .int .i64 31], 89)]) (by kernel_rfl) (by decide +kernel) M9.drew' ?_
  refine KS.q (.int .u64 (u (putI (putI 0#64 1 4 (getI x 8 4)) 5 6 (getI x 25 6)))) ?_
  refine KS.q (.pointer (some ⟨B8, 0, none⟩)) ?_
  refine KS.ql 3 B8 0 (.int .i64 11) 0 Try.underlying3 ?_
  refine KS.q (.pointer (some ⟨B8, 1, none⟩)) ?_
  refine KS.ql 3 B8 1 (.int .i64 1) 0 Try.underlying3 ?_
  refine KS.q (.int .u64 (u x)) ?_
  refine KS.q (.pointer (some ⟨B8, 2, none⟩)) ?_
  refine KS.ql 3 B8 2 (.int .i64 7) 0 Try.underlying3 ?_
  refine KS.q (.pointer (some ⟨B8, 1, none⟩)) ?_
  refine KS.ql 3 B8 1 (.int .i64 1) 0 Try.underlying3 ?_
  refine Canon.call (.int .u64 (u (getI x 7 1))) 36 #[.int .u64 (u x), .int .i64 7, .int .i64 1] (by kernel_rfl) (fun w => by kernel_rfl) (fun w hw => (get_c x 7 1 w).mono fun r w1 ⟨he, hb⟩ => ⟨he, hw.call hb⟩) ?_
  refine Canon.call (.int .u64 (u (putI (putI (putI 0#64 1 4 (getI x 8 4)) 5 6 (getI x 25 6)) 11 1 (getI x 7 1)))) 48 #[.int .u64 (u (putI (putI 0#64 1 4 (getI x 8 4)) 5 6 (getI x 25 6))), .int .i64 11, .int .i64 1, .int .u64 (u (getI x 7 1))] (by kernel_rfl) (fun w => by kernel_rfl) (fun w hw => (put_c (putI (putI 0#64 1 4 (getI x 8 4)) 5 6 (getI x 25 6)) 11 1 (getI x 7 1) w).mono fun r w1 ⟨he, hb⟩ => ⟨he, hw.call hb⟩) ?_
  refine KS.q (.int .u64 (u (putI (putI (putI 0#64 1 4 (getI x 8 4)) 5 6 (getI x 25 6)) 11 1 (getI x 7 1)))) ?_
  refine Canon.fin fun w10 M10 => ?_
  refine Kw.block_normal (Kw.then_normal (Kw.region ?_))
  refine KS.p (.int .i64 3) ?_
  refine KS.p (.int .i64 3) ?_
  refine Kw.fin (Kw.then_normal (Kw.round_succ (wp_seq (Kw.region ?_))))
  refine KS.p (.bool true) ?_
  refine Kw.fin (Kw.then_normal (wp_seq ?_))
  refine wp_cond_true (by kernel_rfl) ?_
  refine wp_skip (Kw.then_normal (wp_seq (wp_block (wp_seq (Kw.region ?_)))))
  refine KS.p (.pointer (some ⟨B, 9, none⟩)) ?_
  refine KS.s (Canon.ldS 89 (.pointer (some ⟨B, 9, none⟩))) (.agg #[.int .i64 12, .int .i64 1, .int .i64 31]) (Kw.ld_mid 89 9 [.int .i64 12, .int .i64 1, .int .i64 31] (M10.get 4 rfl) (by kernel_rfl) _ Try.underlying89 rfl (by kernel_rfl)) ?_
  refine Kw.alloc #[.int .i64 0, .int .i64 0, .int .i64 0] 89 M10 (by kernel_rfl) (by kernel_rfl) fun w11 B11 M11 => ?_
  refine Kw.storeAll 0 89 #[.int .i64 12, .int .i64 1, .int .i64 31] M11 rfl (by kernel_rfl) (by kernel_rfl) (Eq.trans (b := 3) (by kernel_rfl) (by kernel_rfl)) (by kernel_rfl) (by kernel_rfl) fun w12 M12 => ?_
  refine KS.n2 ?_
  refine Canon.region_canon (I := fun w => Kw.Mem [B] W w [(B11, #[.int .i64 12, .int .i64 1, .int .i64 31], 89), (B8, #[.int .i64 11, .int .i64 1, .int .i64 7], 89), (B5, #[.int .i64 5, .int .i64 6, .int .i64 25], 89), (B2, #[.int .i64 1, .int .i64 4, .int .i64 8], 89), (B1, #[.slice (some ⟨B, 0, none⟩) 4 4, .int .i64 13, .bool true, .int .i64 1], 64), (B, #[.int .i64 1, .int .i64 4, .int .i64 8, .int .i64 5, .int .i64 6, .int .i64 25, .int .i64 11, .int .i64 1, .int .i64 7, .int .i64 12, .int .i64 1, .int .i64 31], 89)]) (by kernel_rfl) (by decide +kernel) M12.drew' ?_
  refine KS.q (.int .u64 (u (putI (putI (putI 0#64 1 4 (getI x 8 4)) 5 6 (getI x 25 6)) 11 1 (getI x 7 1)))) ?_
  refine KS.q (.pointer (some ⟨B11, 0, none⟩)) ?_
  refine KS.ql 3 B11 0 (.int .i64 12) 0 Try.underlying3 ?_
  refine KS.q (.pointer (some ⟨B11, 1, none⟩)) ?_
  refine KS.ql 3 B11 1 (.int .i64 1) 0 Try.underlying3 ?_
  refine KS.q (.int .u64 (u x)) ?_
  refine KS.q (.pointer (some ⟨B11, 2, none⟩)) ?_
  refine KS.ql 3 B11 2 (.int .i64 31) 0 Try.underlying3 ?_
  refine KS.q (.pointer (some ⟨B11, 1, none⟩)) ?_
  refine KS.ql 3 B11 1 (.int .i64 1) 0 Try.underlying3 ?_
  refine Canon.call (.int .u64 (u (getI x 31 1))) 36 #[.int .u64 (u x), .int .i64 31, .int .i64 1] (by kernel_rfl) (fun w => by kernel_rfl) (fun w hw => (get_c x 31 1 w).mono fun r w1 ⟨he, hb⟩ => ⟨he, hw.call hb⟩) ?_
  refine Canon.call (.int .u64 (u (putI (putI (putI (putI 0#64 1 4 (getI x 8 4)) 5 6 (getI x 25 6)) 11 1 (getI x 7 1)) 12 1 (getI x 31 1)))) 48 #[.int .u64 (u (putI (putI (putI 0#64 1 4 (getI x 8 4)) 5 6 (getI x 25 6)) 11 1 (getI x 7 1))), .int .i64 12, .int .i64 1, .int .u64 (u (getI x 31 1))] (by kernel_rfl) (fun w => by kernel_rfl) (fun w hw => (put_c (putI (putI (putI 0#64 1 4 (getI x 8 4)) 5 6 (getI x 25 6)) 11 1 (getI x 7 1)) 12 1 (getI x 31 1) w).mono fun r w1 ⟨he, hb⟩ => ⟨he, hw.call hb⟩) ?_
  refine KS.q (.int .u64 (u (putI (putI (putI (putI 0#64 1 4 (getI x 8 4)) 5 6 (getI x 25 6)) 11 1 (getI x 7 1)) 12 1 (getI x 31 1)))) ?_
  refine Canon.fin fun w13 M13 => ?_
  refine Kw.block_normal (Kw.then_normal (Kw.region ?_))
  refine KS.p (.int .i64 4) ?_
  refine KS.p (.int .i64 4) ?_
  refine Kw.fin (Kw.then_normal (Kw.round_succ ?_))
  refine Kw.to (b := ⟨#[.agg #[.slice (some ⟨B, 0, none⟩) 4 4, .int .i64 13, .bool true, .int .i64 1], .int .u64 (u x), .pointer (some ⟨B1, 0, none⟩), undef, .int .i64 0, .int .u64 (u (putI (putI (putI (putI 0#64 1 4 (getI x 8 4)) 5 6 (getI x 25 6)) 11 1 (getI x 7 1)) 12 1 (getI x 31 1))), undef, .pointer (some ⟨B11, 0, none⟩), .pointer (some ⟨B1, 0, none⟩), .slice (some ⟨B, 0, none⟩) 4 4, .int .i64 4, .int .i64 4, .bool true, .pointer (some ⟨B, 9, none⟩), .agg #[.int .i64 12, .int .i64 1, .int .i64 31], .int .u64 (u (putI (putI (putI 0#64 1 4 (getI x 8 4)) 5 6 (getI x 25 6)) 11 1 (getI x 7 1))), .pointer (some ⟨B11, 0, none⟩), .int .i64 12, .pointer (some ⟨B11, 1, none⟩), .int .i64 1, .int .u64 (u x), .pointer (some ⟨B11, 2, none⟩), .int .i64 31, .pointer (some ⟨B11, 1, none⟩), .int .i64 1, .int .u64 (u (getI x 31 1)), .int .u64 (u (putI (putI (putI (putI 0#64 1 4 (getI x 8 4)) 5 6 (getI x 25 6)) 11 1 (getI x 7 1)) 12 1 (getI x 31 1))), .int .i64 4, undef, undef, undef, undef, undef, undef, undef, undef], []⟩) (by kernel_rfl) ?_
  refine wp_seq (Kw.region ?_)
  refine KS.p (.bool false) ?_
  refine Kw.fin (Kw.then_normal (wp_seq ?_))
  refine wp_cond_false (by kernel_rfl) ?_
  refine wp_exit (Kw.then_exit (Kw.then_exit (Kw.block_hit (Kw.then_normal (wp_seq (wp_seq (Kw.region ?_)))))))
  refine KS.p (.pointer (some ⟨B1, 2, none⟩)) ?_
  refine KS.l 4 B1 2 (.bool true) M13 4 Try.underlying4 ?_
  refine KS.n2 ?_
  refine wp_cond_true (by kernel_rfl) ?_
  refine Kw.region ?_
  refine KS.p (.int .u64 (u (putI (putI (putI (putI 0#64 1 4 (getI x 8 4)) 5 6 (getI x 25 6)) 11 1 (getI x 7 1)) 12 1 (getI x 31 1)))) ?_
  refine KS.p (.pointer (some ⟨B1, 1, none⟩)) ?_
  refine KS.l 3 B1 1 (.int .i64 13) M13 4 Try.underlying3 ?_
  refine KS.c (.int .u64 (u (signI (putI (putI (putI (putI 0#64 1 4 (getI x 8 4)) 5 6 (getI x 25 6)) 11 1 (getI x 7 1)) 12 1 (getI x 31 1)) 13))) 35 #[.int .u64 (u (putI (putI (putI (putI 0#64 1 4 (getI x 8 4)) 5 6 (getI x 25 6)) 11 1 (getI x 7 1)) 12 1 (getI x 31 1))), .int .i64 13] M13 (sign_c (putI (putI (putI (putI 0#64 1 4 (getI x 8 4)) 5 6 (getI x 25 6)) 11 1 (getI x 7 1)) 12 1 (getI x 31 1)) 13 w13) fun w14 M14 => ?_
  refine KS.p (.int .u64 (u (signI (putI (putI (putI (putI 0#64 1 4 (getI x 8 4)) 5 6 (getI x 25 6)) 11 1 (getI x 7 1)) 12 1 (getI x 31 1)) 13))) ?_
  refine KS.n4 ?_
  refine KS.p (.int .u64 (u (signI (putI (putI (putI (putI 0#64 1 4 (getI x 8 4)) 5 6 (getI x 25 6)) 11 1 (getI x 7 1)) 12 1 (getI x 31 1)) 13))) ?_
  refine Kw.pure (.int .i64 (s (signI (putI (putI (putI (putI 0#64 1 4 (getI x 8 4)) 5 6 (getI x 25 6)) 11 1 (getI x 7 1)) 12 1 (getI x 31 1)) 13))) (by kernel_rfl) (Kw.eqv (v := .int .i64 (IntKind.i64.wrap (u (signI (putI (putI (putI (putI 0#64 1 4 (getI x 8 4)) 5 6 (getI x 25 6)) 11 1 (getI x 7 1)) 12 1 (getI x 31 1)) 13)))) (by kernel_rfl) (congrArg (Value.int .i64) (wrapi_u (signI (putI (putI (putI (putI 0#64 1 4 (getI x 8 4)) 5 6 (getI x 25 6)) 11 1 (getI x 7 1)) 12 1 (getI x 31 1)) 13)))) ?_
  refine KS.p (.int .i64 (s (signI (putI (putI (putI (putI 0#64 1 4 (getI x 8 4)) 5 6 (getI x 25 6)) 11 1 (getI x 7 1)) 12 1 (getI x 31 1)) 13))) ?_
  refine Kw.fin (Kw.then_normal (wp_ret ?_))
  exact bodyPost_ret (v := .int .i64 (s (signI (putI (putI (putI (putI 0#64 1 4 (getI x 8 4)) 5 6 (getI x 25 6)) 11 1 (getI x 7 1)) 12 1 (getI x 31 1)) 13))) (by kernel_rfl) (by kernel_rfl) ⟨rfl, Held.ro_drop M14 5 rfl hM⟩
set_option maxRecDepth 100000 in
theorem read_U (x : BitVec 64) (W : World) {S0 : List Nat} {W0 : World} (B : Nat) (hB : Kw.Mem S0 W0 W [(B, #[.int .i64 12, .int .i64 20, .int .i64 12], 89)]) : Calls Try.prog 54 #[.agg #[.slice (some ⟨B, 0, none⟩) 1 1, .int .i64 32, .bool true, .int .i64 12], .int .u64 (u x)] W fun e W' => e = .returned (.int .i64 (s (signI (putI 0#64 12 20 (getI x 12 20)) 32))) ∧ Kw.Mem [] W W' [] := by
  have hM : W.heap[B]? = some (.cells #[.int .i64 12, .int .i64 20, .int .i64 12] 89 (0, 0)) := hB.get 0 rfl
  refine calls_of_wp Try.func54 rfl ?_
  have M0 : Kw.Mem [B] W W [(B, #[.int .i64 12, .int .i64 20, .int .i64 12], 89)] := Kw.Mem.begin1 hM
  refine Kw.to (b := ⟨#[.agg #[.slice (some ⟨B, 0, none⟩) 1 1, .int .i64 32, .bool true, .int .i64 12], .int .u64 (u x), undef, undef, undef, undef, undef, undef, undef, undef, undef, undef, undef, undef, undef, undef, undef, undef, undef, undef, undef, undef, undef, undef, undef, undef, undef, undef, undef, undef, undef, undef, undef, undef, undef, undef], []⟩) (by kernel_rfl) ?_
  refine wp_seq (Kw.region ?_)
  refine Kw.alloc #[.slice (some ⟨B, 0, none⟩) 1 1, .int .i64 32, .bool true, .int .i64 12] 64 M0 (by kernel_rfl) (by kernel_rfl) fun w1 B1 M1 => ?_
  refine KS.p (.int .i64 0) ?_
  refine KS.n4 ?_
  refine KS.p (.int .u64 0) ?_
  refine KS.n5 ?_
  refine KS.p (.pointer (some ⟨B1, 0, none⟩)) ?_
  refine KS.l 62 B1 0 (.slice (some ⟨B, 0, none⟩) 1 1) M1 0 Try.underlying62 ?_
  refine KS.p (.int .i64 1) ?_
  refine KS.p (.int .i64 0) ?_
  refine Kw.fin (Kw.then_normal (wp_block ?_))
  refine wp_loop_rounds 2 ?_
  refine Kw.round_succ (wp_seq (Kw.region ?_))
  refine KS.p (.bool true) ?_
  refine Kw.fin (Kw.then_normal (wp_seq ?_))
  refine wp_cond_true (by kernel_rfl) ?_
  refine wp_skip (Kw.then_normal (wp_seq (wp_block (wp_seq (Kw.region ?_)))))
  refine KS.p (.pointer (some ⟨B, 0, none⟩)) ?_
  refine KS.la 89 B _ M1 1 Try.underlying89 ?_
  refine Kw.alloc #[.int .i64 0, .int .i64 0, .int .i64 0] 89 M1 (by kernel_rfl) (by kernel_rfl) fun w2 B2 M2 => ?_
  refine Kw.storeAll 0 89 #[.int .i64 12, .int .i64 20, .int .i64 12] M2 rfl (by kernel_rfl) (by kernel_rfl) (Eq.trans (b := 3) (by kernel_rfl) (by kernel_rfl)) (by kernel_rfl) (by kernel_rfl) fun w3 M3 => ?_
  refine KS.n2 ?_
  refine Canon.region_canon (I := fun w => Kw.Mem [B] W w [(B2, #[.int .i64 12, .int .i64 20, .int .i64 12], 89), (B1, #[.slice (some ⟨B, 0, none⟩) 1 1, .int .i64 32, .bool true, .int .i64 12], 64), (B, #[.int .i64 12, .int .i64 20, .int .i64 12], 89)]) (by kernel_rfl) (by decide +kernel) M3.drew' ?_
  refine KS.q (.int .u64 0) ?_
  refine KS.q (.pointer (some ⟨B2, 0, none⟩)) ?_
  refine KS.ql 3 B2 0 (.int .i64 12) 0 Try.underlying3 ?_
  refine KS.q (.pointer (some ⟨B2, 1, none⟩)) ?_
  refine KS.ql 3 B2 1 (.int .i64 20) 0 Try.underlying3 ?_
  refine KS.q (.int .u64 (u x)) ?_
  refine KS.q (.pointer (some ⟨B2, 2, none⟩)) ?_
  refine KS.ql 3 B2 2 (.int .i64 12) 0 Try.underlying3 ?_
  refine KS.q (.pointer (some ⟨B2, 1, none⟩)) ?_
  refine KS.ql 3 B2 1 (.int .i64 20) 0 Try.underlying3 ?_
  refine Canon.call (.int .u64 (u (getI x 12 20))) 36 #[.int .u64 (u x), .int .i64 12, .int .i64 20] (by kernel_rfl) (fun w => by kernel_rfl) (fun w hw => (get_c x 12 20 w).mono fun r w1 ⟨he, hb⟩ => ⟨he, hw.call hb⟩) ?_
  refine Canon.call (.int .u64 (u (putI 0#64 12 20 (getI x 12 20)))) 48 #[.int .u64 0, .int .i64 12, .int .i64 20, .int .u64 (u (getI x 12 20))] (by kernel_rfl) (fun w => by kernel_rfl) (fun w hw => (put_c 0#64 12 20 (getI x 12 20) w).mono fun r w1 ⟨he, hb⟩ => ⟨he, hw.call hb⟩) ?_
  refine KS.q (.int .u64 (u (putI 0#64 12 20 (getI x 12 20)))) ?_
  refine Canon.fin fun w4 M4 => ?_
  refine Kw.block_normal (Kw.then_normal (Kw.region ?_))
  refine KS.p (.int .i64 1) ?_
  refine KS.p (.int .i64 1) ?_
  refine Kw.fin (Kw.then_normal (Kw.round_succ (wp_seq (Kw.region ?_))))
  refine KS.p (.bool false) ?_
  refine Kw.fin (Kw.then_normal (wp_seq ?_))
  refine wp_cond_false (by kernel_rfl) ?_
  refine wp_exit (Kw.then_exit (Kw.then_exit (Kw.block_hit (Kw.then_normal (wp_seq (wp_seq (Kw.region ?_)))))))
  refine KS.p (.pointer (some ⟨B1, 2, none⟩)) ?_
  refine KS.l 4 B1 2 (.bool true) M4 1 Try.underlying4 ?_
  refine KS.n2 ?_
  refine wp_cond_true (by kernel_rfl) ?_
  refine Kw.region ?_
  refine KS.p (.int .u64 (u (putI 0#64 12 20 (getI x 12 20)))) ?_
  refine KS.p (.pointer (some ⟨B1, 1, none⟩)) ?_
  refine KS.l 3 B1 1 (.int .i64 32) M4 1 Try.underlying3 ?_
  refine KS.c (.int .u64 (u (signI (putI 0#64 12 20 (getI x 12 20)) 32))) 35 #[.int .u64 (u (putI 0#64 12 20 (getI x 12 20))), .int .i64 32] M4 (sign_c (putI 0#64 12 20 (getI x 12 20)) 32 w4) fun w5 M5 => ?_
  refine KS.p (.int .u64 (u (signI (putI 0#64 12 20 (getI x 12 20)) 32))) ?_
  refine KS.n4 ?_
  refine KS.p (.int .u64 (u (signI (putI 0#64 12 20 (getI x 12 20)) 32))) ?_
  refine Kw.pure (.int .i64 (s (signI (putI 0#64 12 20 (getI x 12 20)) 32))) (by kernel_rfl) (Kw.eqv (v := .int .i64 (IntKind.i64.wrap (u (signI (putI 0#64 12 20 (getI x 12 20)) 32)))) (by kernel_rfl) (congrArg (Value.int .i64) (wrapi_u (signI (putI 0#64 12 20 (getI x 12 20)) 32)))) ?_
  refine KS.p (.int .i64 (s (signI (putI 0#64 12 20 (getI x 12 20)) 32))) ?_
  refine Kw.fin (Kw.then_normal (wp_ret ?_))
  exact bodyPost_ret (v := .int .i64 (s (signI (putI 0#64 12 20 (getI x 12 20)) 32))) (by kernel_rfl) (by kernel_rfl) ⟨rfl, Held.ro_drop M5 2 rfl hM⟩
set_option maxRecDepth 100000 in
theorem read_J (x : BitVec 64) (W : World) {S0 : List Nat} {W0 : World} (B : Nat) (hB : Kw.Mem S0 W0 W [(B, #[.int .i64 12, .int .i64 8, .int .i64 12, .int .i64 11, .int .i64 1, .int .i64 20, .int .i64 1, .int .i64 10, .int .i64 21, .int .i64 20, .int .i64 1, .int .i64 31], 89)]) : Calls Try.prog 54 #[.agg #[.slice (some ⟨B, 0, none⟩) 4 4, .int .i64 21, .bool true, .int .i64 1], .int .u64 (u x)] W fun e W' => e = .returned (.int .i64 (s (signI (putI (putI (putI (putI 0#64 12 8 (getI x 12 8)) 11 1 (getI x 20 1)) 1 10 (getI x 21 10)) 20 1 (getI x 31 1)) 21))) ∧ Kw.Mem [] W W' [] := by
  have hM : W.heap[B]? = some (.cells #[.int .i64 12, .int .i64 8, .int .i64 12, .int .i64 11, .int .i64 1, .int .i64 20, .int .i64 1, .int .i64 10, .int .i64 21, .int .i64 20, .int .i64 1, .int .i64 31] 89 (0, 0)) := hB.get 0 rfl
  refine calls_of_wp Try.func54 rfl ?_
  have M0 : Kw.Mem [B] W W [(B, #[.int .i64 12, .int .i64 8, .int .i64 12, .int .i64 11, .int .i64 1, .int .i64 20, .int .i64 1, .int .i64 10, .int .i64 21, .int .i64 20, .int .i64 1, .int .i64 31], 89)] := Kw.Mem.begin1 hM
  refine Kw.to (b := ⟨#[.agg #[.slice (some ⟨B, 0, none⟩) 4 4, .int .i64 21, .bool true, .int .i64 1], .int .u64 (u x), undef, undef, undef, undef, undef, undef, undef, undef, undef, undef, undef, undef, undef, undef, undef, undef, undef, undef, undef, undef, undef, undef, undef, undef, undef, undef, undef, undef, undef, undef, undef, undef, undef, undef], []⟩) (by kernel_rfl) ?_
  refine wp_seq (Kw.region ?_)
  refine Kw.alloc #[.slice (some ⟨B, 0, none⟩) 4 4, .int .i64 21, .bool true, .int .i64 1] 64 M0 (by kernel_rfl) (by kernel_rfl) fun w1 B1 M1 => ?_
  refine KS.p (.int .i64 0) ?_
  refine KS.n4 ?_
  refine KS.p (.int .u64 0) ?_
  refine KS.n5 ?_
  refine KS.p (.pointer (some ⟨B1, 0, none⟩)) ?_
  refine KS.l 62 B1 0 (.slice (some ⟨B, 0, none⟩) 4 4) M1 0 Try.underlying62 ?_
  refine KS.p (.int .i64 4) ?_
  refine KS.p (.int .i64 0) ?_
  refine Kw.fin (Kw.then_normal (wp_block ?_))
  refine wp_loop_rounds 5 ?_
  refine Kw.round_succ (wp_seq (Kw.region ?_))
  refine KS.p (.bool true) ?_
  refine Kw.fin (Kw.then_normal (wp_seq ?_))
  refine wp_cond_true (by kernel_rfl) ?_
  refine wp_skip (Kw.then_normal (wp_seq (wp_block (wp_seq (Kw.region ?_)))))
  refine KS.p (.pointer (some ⟨B, 0, none⟩)) ?_
  refine KS.s (Canon.ldS 89 (.pointer (some ⟨B, 0, none⟩))) (.agg #[.int .i64 12, .int .i64 8, .int .i64 12]) (Kw.ld_mid 89 0 [.int .i64 12, .int .i64 8, .int .i64 12] (M1.get 1 rfl) (by kernel_rfl) _ Try.underlying89 rfl (by kernel_rfl)) ?_
  refine Kw.alloc #[.int .i64 0, .int .i64 0, .int .i64 0] 89 M1 (by kernel_rfl) (by kernel_rfl) fun w2 B2 M2 => ?_
  refine Kw.storeAll 0 89 #[.int .i64 12, .int .i64 8, .int .i64 12] M2 rfl (by kernel_rfl) (by kernel_rfl) (Eq.trans (b := 3) (by kernel_rfl) (by kernel_rfl)) (by kernel_rfl) (by kernel_rfl) fun w3 M3 => ?_
  refine KS.n2 ?_
  refine Canon.region_canon (I := fun w => Kw.Mem [B] W w [(B2, #[.int .i64 12, .int .i64 8, .int .i64 12], 89), (B1, #[.slice (some ⟨B, 0, none⟩) 4 4, .int .i64 21, .bool true, .int .i64 1], 64), (B, #[.int .i64 12, .int .i64 8, .int .i64 12, .int .i64 11, .int .i64 1, .int .i64 20, .int .i64 1, .int .i64 10, .int .i64 21, .int .i64 20, .int .i64 1, .int .i64 31], 89)]) (by kernel_rfl) (by decide +kernel) M3.drew' ?_
  refine KS.q (.int .u64 0) ?_
  refine KS.q (.pointer (some ⟨B2, 0, none⟩)) ?_
  refine KS.ql 3 B2 0 (.int .i64 12) 0 Try.underlying3 ?_
  refine KS.q (.pointer (some ⟨B2, 1, none⟩)) ?_
  refine KS.ql 3 B2 1 (.int .i64 8) 0 Try.underlying3 ?_
  refine KS.q (.int .u64 (u x)) ?_
  refine KS.q (.pointer (some ⟨B2, 2, none⟩)) ?_
  refine KS.ql 3 B2 2 (.int .i64 12) 0 Try.underlying3 ?_
  refine KS.q (.pointer (some ⟨B2, 1, none⟩)) ?_
  refine KS.ql 3 B2 1 (.int .i64 8) 0 Try.underlying3 ?_
  refine Canon.call (.int .u64 (u (getI x 12 8))) 36 #[.int .u64 (u x), .int .i64 12, .int .i64 8] (by kernel_rfl) (fun w => by kernel_rfl) (fun w hw => (get_c x 12 8 w).mono fun r w1 ⟨he, hb⟩ => ⟨he, hw.call hb⟩) ?_
  refine Canon.call (.int .u64 (u (putI 0#64 12 8 (getI x 12 8)))) 48 #[.int .u64 0, .int .i64 12, .int .i64 8, .int .u64 (u (getI x 12 8))] (by kernel_rfl) (fun w => by kernel_rfl) (fun w hw => (put_c 0#64 12 8 (getI x 12 8) w).mono fun r w1 ⟨he, hb⟩ => ⟨he, hw.call hb⟩) ?_
  refine KS.q (.int .u64 (u (putI 0#64 12 8 (getI x 12 8)))) ?_
  refine Canon.fin fun w4 M4 => ?_
  refine Kw.block_normal (Kw.then_normal (Kw.region ?_))
  refine KS.p (.int .i64 1) ?_
  refine KS.p (.int .i64 1) ?_
  refine Kw.fin (Kw.then_normal (Kw.round_succ (wp_seq (Kw.region ?_))))
  refine KS.p (.bool true) ?_
  refine Kw.fin (Kw.then_normal (wp_seq ?_))
  refine wp_cond_true (by kernel_rfl) ?_
  refine wp_skip (Kw.then_normal (wp_seq (wp_block (wp_seq (Kw.region ?_)))))
  refine KS.p (.pointer (some ⟨B, 3, none⟩)) ?_
  refine KS.s (Canon.ldS 89 (.pointer (some ⟨B, 3, none⟩))) (.agg #[.int .i64 11, .int .i64 1, .int .i64 20]) (Kw.ld_mid 89 3 [.int .i64 11, .int .i64 1, .int .i64 20] (M4.get 2 rfl) (by kernel_rfl) _ Try.underlying89 rfl (by kernel_rfl)) ?_
  refine Kw.alloc #[.int .i64 0, .int .i64 0, .int .i64 0] 89 M4 (by kernel_rfl) (by kernel_rfl) fun w5 B5 M5 => ?_
  refine Kw.storeAll 0 89 #[.int .i64 11, .int .i64 1, .int .i64 20] M5 rfl (by kernel_rfl) (by kernel_rfl) (Eq.trans (b := 3) (by kernel_rfl) (by kernel_rfl)) (by kernel_rfl) (by kernel_rfl) fun w6 M6 => ?_
  refine KS.n2 ?_
  refine Canon.region_canon (I := fun w => Kw.Mem [B] W w [(B5, #[.int .i64 11, .int .i64 1, .int .i64 20], 89), (B2, #[.int .i64 12, .int .i64 8, .int .i64 12], 89), (B1, #[.slice (some ⟨B, 0, none⟩) 4 4, .int .i64 21, .bool true, .int .i64 1], 64), (B, #[.int .i64 12, .int .i64 8, .int .i64 12, .int .i64 11, .int .i64 1, .int .i64 20, .int .i64 1, .int .i64 10, .int .i64 21, .int .i64 20, .int .i64 1, .int .i64 31], 89)]) (by kernel_rfl) (by decide +kernel) M6.drew' ?_
  refine KS.q (.int .u64 (u (putI 0#64 12 8 (getI x 12 8)))) ?_
  refine KS.q (.pointer (some ⟨B5, 0, none⟩)) ?_
  refine KS.ql 3 B5 0 (.int .i64 11) 0 Try.underlying3 ?_
  refine KS.q (.pointer (some ⟨B5, 1, none⟩)) ?_
  refine KS.ql 3 B5 1 (.int .i64 1) 0 Try.underlying3 ?_
  refine KS.q (.int .u64 (u x)) ?_
  refine KS.q (.pointer (some ⟨B5, 2, none⟩)) ?_
  refine KS.ql 3 B5 2 (.int .i64 20) 0 Try.underlying3 ?_
  refine KS.q (.pointer (some ⟨B5, 1, none⟩)) ?_
  refine KS.ql 3 B5 1 (.int .i64 1) 0 Try.underlying3 ?_
  refine Canon.call (.int .u64 (u (getI x 20 1))) 36 #[.int .u64 (u x), .int .i64 20, .int .i64 1] (by kernel_rfl) (fun w => by kernel_rfl) (fun w hw => (get_c x 20 1 w).mono fun r w1 ⟨he, hb⟩ => ⟨he, hw.call hb⟩) ?_
  refine Canon.call (.int .u64 (u (putI (putI 0#64 12 8 (getI x 12 8)) 11 1 (getI x 20 1)))) 48 #[.int .u64 (u (putI 0#64 12 8 (getI x 12 8))), .int .i64 11, .int .i64 1, .int .u64 (u (getI x 20 1))] (by kernel_rfl) (fun w => by kernel_rfl) (fun w hw => (put_c (putI 0#64 12 8 (getI x 12 8)) 11 1 (getI x 20 1) w).mono fun r w1 ⟨he, hb⟩ => ⟨he, hw.call hb⟩) ?_
  refine KS.q (.int .u64 (u (putI (putI 0#64 12 8 (getI x 12 8)) 11 1 (getI x 20 1)))) ?_
  refine Canon.fin fun w7 M7 => ?_
  refine Kw.block_normal (Kw.then_normal ?_)
  refine Kw.to (b := ⟨#[.agg #[.slice (some ⟨B, 0, none⟩) 4 4, .int .i64 21, .bool true, .int .i64 1], .int .u64 (u x), .pointer (some ⟨B1, 0, none⟩), undef, .int .i64 0, .int .u64 (u (putI (putI 0#64 12 8 (getI x 12 8)) 11 1 (getI x 20 1))), undef, .pointer (some ⟨B5, 0, none⟩), .pointer (some ⟨B1, 0, none⟩), .slice (some ⟨B, 0, none⟩) 4 4, .int .i64 4, .int .i64 1, .bool true, .pointer (some ⟨B, 3, none⟩), .agg #[.int .i64 11, .int .i64 1, .int .i64 20], .int .u64 (u (putI 0#64 12 8 (getI x 12 8))), .pointer (some ⟨B5, 0, none⟩), .int .i64 11, .pointer (some ⟨B5, 1, none⟩), .int .i64 1, .int .u64 (u x), .pointer (some ⟨B5, 2, none⟩), .int .i64 20, .pointer (some ⟨B5, 1, none⟩), .int .i64 1, .int .u64 (u (getI x 20 1)), .int .u64 (u (putI (putI 0#64 12 8 (getI x 12 8)) 11 1 (getI x 20 1))), .int .i64 1, undef, undef, undef, undef, undef, undef, undef, undef], []⟩) (by kernel_rfl) ?_
  refine Kw.region ?_
  refine KS.p (.int .i64 2) ?_
  refine KS.p (.int .i64 2) ?_
  refine Kw.fin (Kw.then_normal (Kw.round_succ (wp_seq (Kw.region ?_))))
  refine KS.p (.bool true) ?_
  refine Kw.fin (Kw.then_normal (wp_seq ?_))
  refine wp_cond_true (by kernel_rfl) ?_
  refine wp_skip (Kw.then_normal (wp_seq (wp_block (wp_seq (Kw.region ?_)))))
  refine KS.p (.pointer (some ⟨B, 6, none⟩)) ?_
  refine KS.s (Canon.ldS 89 (.pointer (some ⟨B, 6, none⟩))) (.agg #[.int .i64 1, .int .i64 10, .int .i64 21]) (Kw.ld_mid 89 6 [.int .i64 1, .int .i64 10, .int .i64 21] (M7.get 3 rfl) (by kernel_rfl) _ Try.underlying89 rfl (by kernel_rfl)) ?_
  refine Kw.alloc #[.int .i64 0, .int .i64 0, .int .i64 0] 89 M7 (by kernel_rfl) (by kernel_rfl) fun w8 B8 M8 => ?_
  refine Kw.storeAll 0 89 #[.int .i64 1, .int .i64 10, .int .i64 21] M8 rfl (by kernel_rfl) (by kernel_rfl) (Eq.trans (b := 3) (by kernel_rfl) (by kernel_rfl)) (by kernel_rfl) (by kernel_rfl) fun w9 M9 => ?_
  refine KS.n2 ?_
  refine Canon.region_canon (I := fun w => Kw.Mem [B] W w [(B8, #[.int .i64 1, .int .i64 10, .int .i64 21], 89), (B5, #[.int .i64 11, .int .i64 1, .int .i64 20], 89), (B2, #[.int .i64 12, .int .i64 8, .int .i64 12], 89), (B1, #[.slice (some ⟨B, 0, none⟩) 4 4, .int .i64 21, .bool true, .int .i64 1], 64), (B, #[.int .i64 12, .int .i64 8, .int .i64 12, .int .i64 11, .int .i64 1, .int .i64 20, .int .i64 1, .int .i64 10, .int .i64 21, .int .i64 20, .int .i64 1, .int .i64 31], 89)]) (by kernel_rfl) (by decide +kernel) M9.drew' ?_
  refine KS.q (.int .u64 (u (putI (putI 0#64 12 8 (getI x 12 8)) 11 1 (getI x 20 1)))) ?_
  refine KS.q (.pointer (some ⟨B8, 0, none⟩)) ?_
  refine KS.ql 3 B8 0 (.int .i64 1) 0 Try.underlying3 ?_
  refine KS.q (.pointer (some ⟨B8, 1, none⟩)) ?_
  refine KS.ql 3 B8 1 (.int .i64 10) 0 Try.underlying3 ?_
  refine KS.q (.int .u64 (u x)) ?_
  refine KS.q (.pointer (some ⟨B8, 2, none⟩)) ?_
  refine KS.ql 3 B8 2 (.int .i64 21) 0 Try.underlying3 ?_
  refine KS.q (.pointer (some ⟨B8, 1, none⟩)) ?_
  refine KS.ql 3 B8 1 (.int .i64 10) 0 Try.underlying3 ?_
  refine Canon.call (.int .u64 (u (getI x 21 10))) 36 #[.int .u64 (u x), .int .i64 21, .int .i64 10] (by kernel_rfl) (fun w => by kernel_rfl) (fun w hw => (get_c x 21 10 w).mono fun r w1 ⟨he, hb⟩ => ⟨he, hw.call hb⟩) ?_
  refine Canon.call (.int .u64 (u (putI (putI (putI 0#64 12 8 (getI x 12 8)) 11 1 (getI x 20 1)) 1 10 (getI x 21 10)))) 48 #[.int .u64 (u (putI (putI 0#64 12 8 (getI x 12 8)) 11 1 (getI x 20 1))), .int .i64 1, .int .i64 10, .int .u64 (u (getI x 21 10))] (by kernel_rfl) (fun w => by kernel_rfl) (fun w hw => (put_c (putI (putI 0#64 12 8 (getI x 12 8)) 11 1 (getI x 20 1)) 1 10 (getI x 21 10) w).mono fun r w1 ⟨he, hb⟩ => ⟨he, hw.call hb⟩) ?_
  refine KS.q (.int .u64 (u (putI (putI (putI 0#64 12 8 (getI x 12 8)) 11 1 (getI x 20 1)) 1 10 (getI x 21 10)))) ?_
  refine Canon.fin fun w10 M10 => ?_
  refine Kw.block_normal (Kw.then_normal (Kw.region ?_))
  refine KS.p (.int .i64 3) ?_
  refine KS.p (.int .i64 3) ?_
  refine Kw.fin (Kw.then_normal (Kw.round_succ (wp_seq (Kw.region ?_))))
  refine KS.p (.bool true) ?_
  refine Kw.fin (Kw.then_normal (wp_seq ?_))
  refine wp_cond_true (by kernel_rfl) ?_
  refine wp_skip (Kw.then_normal (wp_seq (wp_block (wp_seq (Kw.region ?_)))))
  refine KS.p (.pointer (some ⟨B, 9, none⟩)) ?_
  refine KS.s (Canon.ldS 89 (.pointer (some ⟨B, 9, none⟩))) (.agg #[.int .i64 20, .int .i64 1, .int .i64 31]) (Kw.ld_mid 89 9 [.int .i64 20, .int .i64 1, .int .i64 31] (M10.get 4 rfl) (by kernel_rfl) _ Try.underlying89 rfl (by kernel_rfl)) ?_
  refine Kw.alloc #[.int .i64 0, .int .i64 0, .int .i64 0] 89 M10 (by kernel_rfl) (by kernel_rfl) fun w11 B11 M11 => ?_
  refine Kw.storeAll 0 89 #[.int .i64 20, .int .i64 1, .int .i64 31] M11 rfl (by kernel_rfl) (by kernel_rfl) (Eq.trans (b := 3) (by kernel_rfl) (by kernel_rfl)) (by kernel_rfl) (by kernel_rfl) fun w12 M12 => ?_
  refine KS.n2 ?_
  refine Canon.region_canon (I := fun w => Kw.Mem [B] W w [(B11, #[.int .i64 20, .int .i64 1, .int .i64 31], 89), (B8, #[.int .i64 1, .int .i64 10, .int .i64 21], 89), (B5, #[.int .i64 11, .int .i64 1, .int .i64 20], 89), (B2, #[.int .i64 12, .int .i64 8, .int .i64 12], 89), (B1, #[.slice (some ⟨B, 0, none⟩) 4 4, .int .i64 21, .bool true, .int .i64 1], 64), (B, #[.int .i64 12, .int .i64 8, .int .i64 12, .int .i64 11, .int .i64 1, .int .i64 20, .int .i64 1, .int .i64 10, .int .i64 21, .int .i64 20, .int .i64 1, .int .i64 31], 89)]) (by kernel_rfl) (by decide +kernel) M12.drew' ?_
  refine KS.q (.int .u64 (u (putI (putI (putI 0#64 12 8 (getI x 12 8)) 11 1 (getI x 20 1)) 1 10 (getI x 21 10)))) ?_
  refine KS.q (.pointer (some ⟨B11, 0, none⟩)) ?_
  refine KS.ql 3 B11 0 (.int .i64 20) 0 Try.underlying3 ?_
  refine KS.q (.pointer (some ⟨B11, 1, none⟩)) ?_
  refine KS.ql 3 B11 1 (.int .i64 1) 0 Try.underlying3 ?_
  refine KS.q (.int .u64 (u x)) ?_
  refine KS.q (.pointer (some ⟨B11, 2, none⟩)) ?_
  refine KS.ql 3 B11 2 (.int .i64 31) 0 Try.underlying3 ?_
  refine KS.q (.pointer (some ⟨B11, 1, none⟩)) ?_
  refine KS.ql 3 B11 1 (.int .i64 1) 0 Try.underlying3 ?_
  refine Canon.call (.int .u64 (u (getI x 31 1))) 36 #[.int .u64 (u x), .int .i64 31, .int .i64 1] (by kernel_rfl) (fun w => by kernel_rfl) (fun w hw => (get_c x 31 1 w).mono fun r w1 ⟨he, hb⟩ => ⟨he, hw.call hb⟩) ?_
  refine Canon.call (.int .u64 (u (putI (putI (putI (putI 0#64 12 8 (getI x 12 8)) 11 1 (getI x 20 1)) 1 10 (getI x 21 10)) 20 1 (getI x 31 1)))) 48 #[.int .u64 (u (putI (putI (putI 0#64 12 8 (getI x 12 8)) 11 1 (getI x 20 1)) 1 10 (getI x 21 10))), .int .i64 20, .int .i64 1, .int .u64 (u (getI x 31 1))] (by kernel_rfl) (fun w => by kernel_rfl) (fun w hw => (put_c (putI (putI (putI 0#64 12 8 (getI x 12 8)) 11 1 (getI x 20 1)) 1 10 (getI x 21 10)) 20 1 (getI x 31 1) w).mono fun r w1 ⟨he, hb⟩ => ⟨he, hw.call hb⟩) ?_
  refine KS.q (.int .u64 (u (putI (putI (putI (putI 0#64 12 8 (getI x 12 8)) 11 1 (getI x 20 1)) 1 10 (getI x 21 10)) 20 1 (getI x 31 1)))) ?_
  refine Canon.fin fun w13 M13 => ?_
  refine Kw.block_normal (Kw.then_normal (Kw.region ?_))
  refine KS.p (.int .i64 4) ?_
  refine KS.p (.int .i64 4) ?_
  refine Kw.fin (Kw.then_normal (Kw.round_succ ?_))
  refine Kw.to (b := ⟨#[.agg #[.slice (some ⟨B, 0, none⟩) 4 4, .int .i64 21, .bool true, .int .i64 1], .int .u64 (u x), .pointer (some ⟨B1, 0, none⟩), undef, .int .i64 0, .int .u64 (u (putI (putI (putI (putI 0#64 12 8 (getI x 12 8)) 11 1 (getI x 20 1)) 1 10 (getI x 21 10)) 20 1 (getI x 31 1))), undef, .pointer (some ⟨B11, 0, none⟩), .pointer (some ⟨B1, 0, none⟩), .slice (some ⟨B, 0, none⟩) 4 4, .int .i64 4, .int .i64 4, .bool true, .pointer (some ⟨B, 9, none⟩), .agg #[.int .i64 20, .int .i64 1, .int .i64 31], .int .u64 (u (putI (putI (putI 0#64 12 8 (getI x 12 8)) 11 1 (getI x 20 1)) 1 10 (getI x 21 10))), .pointer (some ⟨B11, 0, none⟩), .int .i64 20, .pointer (some ⟨B11, 1, none⟩), .int .i64 1, .int .u64 (u x), .pointer (some ⟨B11, 2, none⟩), .int .i64 31, .pointer (some ⟨B11, 1, none⟩), .int .i64 1, .int .u64 (u (getI x 31 1)), .int .u64 (u (putI (putI (putI (putI 0#64 12 8 (getI x 12 8)) 11 1 (getI x 20 1)) 1 10 (getI x 21 10)) 20 1 (getI x 31 1))), .int .i64 4, undef, undef, undef, undef, undef, undef, undef, undef], []⟩) (by kernel_rfl) ?_
  refine wp_seq (Kw.region ?_)
  refine KS.p (.bool false) ?_
  refine Kw.fin (Kw.then_normal (wp_seq ?_))
  refine wp_cond_false (by kernel_rfl) ?_
  refine wp_exit (Kw.then_exit (Kw.then_exit (Kw.block_hit (Kw.then_normal (wp_seq (wp_seq (Kw.region ?_)))))))
  refine KS.p (.pointer (some ⟨B1, 2, none⟩)) ?_
  refine KS.l 4 B1 2 (.bool true) M13 4 Try.underlying4 ?_
  refine KS.n2 ?_
  refine wp_cond_true (by kernel_rfl) ?_
  refine Kw.region ?_
  refine KS.p (.int .u64 (u (putI (putI (putI (putI 0#64 12 8 (getI x 12 8)) 11 1 (getI x 20 1)) 1 10 (getI x 21 10)) 20 1 (getI x 31 1)))) ?_
  refine KS.p (.pointer (some ⟨B1, 1, none⟩)) ?_
  refine KS.l 3 B1 1 (.int .i64 21) M13 4 Try.underlying3 ?_
  refine KS.c (.int .u64 (u (signI (putI (putI (putI (putI 0#64 12 8 (getI x 12 8)) 11 1 (getI x 20 1)) 1 10 (getI x 21 10)) 20 1 (getI x 31 1)) 21))) 35 #[.int .u64 (u (putI (putI (putI (putI 0#64 12 8 (getI x 12 8)) 11 1 (getI x 20 1)) 1 10 (getI x 21 10)) 20 1 (getI x 31 1))), .int .i64 21] M13 (sign_c (putI (putI (putI (putI 0#64 12 8 (getI x 12 8)) 11 1 (getI x 20 1)) 1 10 (getI x 21 10)) 20 1 (getI x 31 1)) 21 w13) fun w14 M14 => ?_
  refine KS.p (.int .u64 (u (signI (putI (putI (putI (putI 0#64 12 8 (getI x 12 8)) 11 1 (getI x 20 1)) 1 10 (getI x 21 10)) 20 1 (getI x 31 1)) 21))) ?_
  refine KS.n4 ?_
  refine KS.p (.int .u64 (u (signI (putI (putI (putI (putI 0#64 12 8 (getI x 12 8)) 11 1 (getI x 20 1)) 1 10 (getI x 21 10)) 20 1 (getI x 31 1)) 21))) ?_
  refine Kw.pure (.int .i64 (s (signI (putI (putI (putI (putI 0#64 12 8 (getI x 12 8)) 11 1 (getI x 20 1)) 1 10 (getI x 21 10)) 20 1 (getI x 31 1)) 21))) (by kernel_rfl) (Kw.eqv (v := .int .i64 (IntKind.i64.wrap (u (signI (putI (putI (putI (putI 0#64 12 8 (getI x 12 8)) 11 1 (getI x 20 1)) 1 10 (getI x 21 10)) 20 1 (getI x 31 1)) 21)))) (by kernel_rfl) (congrArg (Value.int .i64) (wrapi_u (signI (putI (putI (putI (putI 0#64 12 8 (getI x 12 8)) 11 1 (getI x 20 1)) 1 10 (getI x 21 10)) 20 1 (getI x 31 1)) 21)))) ?_
  refine KS.p (.int .i64 (s (signI (putI (putI (putI (putI 0#64 12 8 (getI x 12 8)) 11 1 (getI x 20 1)) 1 10 (getI x 21 10)) 20 1 (getI x 31 1)) 21))) ?_
  refine Kw.fin (Kw.then_normal (wp_ret ?_))
  exact bodyPost_ret (v := .int .i64 (s (signI (putI (putI (putI (putI 0#64 12 8 (getI x 12 8)) 11 1 (getI x 20 1)) 1 10 (getI x 21 10)) 20 1 (getI x 31 1)) 21))) (by kernel_rfl) (by kernel_rfl) ⟨rfl, Held.ro_drop M14 5 rfl hM⟩
set_option maxRecDepth 100000 in
theorem read_R (x : BitVec 64) (W : World) : Calls Try.prog 54 #[.agg #[.slice none 0 0, .int .i64 0, .bool false, .int .i64 0], .int .u64 (u x)] W fun e W' => e = .returned (.int .i64 (IntKind.i64.wrap 0)) ∧ Kw.Mem [] W W' [] := by
  refine calls_of_wp Try.func54 rfl ?_
  have M0 : Kw.Mem [] W W [] := Kw.Mem.start _ _
  refine Kw.to (b := ⟨#[.agg #[.slice none 0 0, .int .i64 0, .bool false, .int .i64 0], .int .u64 (u x), undef, undef, undef, undef, undef, undef, undef, undef, undef, undef, undef, undef, undef, undef, undef, undef, undef, undef, undef, undef, undef, undef, undef, undef, undef, undef, undef, undef, undef, undef, undef, undef, undef, undef], []⟩) (by kernel_rfl) ?_
  refine wp_seq (Kw.region ?_)
  refine Kw.alloc #[.slice none 0 0, .int .i64 0, .bool false, .int .i64 0] 64 M0 (by kernel_rfl) (by kernel_rfl) fun w1 B1 M1 => ?_
  refine KS.p (.int .i64 0) ?_
  refine KS.n4 ?_
  refine KS.p (.int .u64 0) ?_
  refine KS.n5 ?_
  refine KS.p (.pointer (some ⟨B1, 0, none⟩)) ?_
  refine KS.l 62 B1 0 (.slice none 0 0) M1 0 Try.underlying62 ?_
  refine KS.p (.int .i64 0) ?_
  refine KS.p (.int .i64 0) ?_
  refine Kw.fin (Kw.then_normal (wp_block ?_))
  refine wp_loop_rounds 1 ?_
  refine Kw.round_succ (wp_seq (Kw.region ?_))
  refine KS.p (.bool false) ?_
  refine Kw.fin (Kw.then_normal (wp_seq ?_))
  refine wp_cond_false (by kernel_rfl) ?_
  refine wp_exit (Kw.then_exit (Kw.then_exit (Kw.block_hit (Kw.then_normal (wp_seq (wp_seq (Kw.region ?_)))))))
  refine KS.p (.pointer (some ⟨B1, 2, none⟩)) ?_
  refine KS.l 4 B1 2 (.bool false) M1 0 Try.underlying4 ?_
  refine KS.n2 ?_
  refine wp_cond_false (by kernel_rfl) ?_
  refine wp_skip (Kw.then_normal (wp_seq (Kw.region ?_)))
  refine KS.p (.int .u64 0) ?_
  refine KS.p (.int .i64 (IntKind.i64.wrap 0)) ?_
  refine KS.p (.int .i64 (IntKind.i64.wrap 0)) ?_
  refine Kw.fin (Kw.then_normal (wp_ret ?_))
  exact bodyPost_ret (v := .int .i64 (IntKind.i64.wrap 0)) (by kernel_rfl) (by kernel_rfl) ⟨rfl, M1.drop⟩
end Go.Proofs.Ytpmpibcfmejbfaa.Inst
