/- How the number in an instruction of each shape is laid, and fits: what the program's functions answer. No condition. -/
import Derived.Test.YtpmpibcfmejbfaaInstFieldC
import Derived.Test.YtpmpibcfmejbfaaKS
namespace Go.Proofs.Ytpmpibcfmejbfaa.Inst
open Go.RowKit Go.Proofs.Ytpmpibcfmejbfaa.Bits
attribute [local irreducible] Go.wpList
set_option linter.unusedVariables false
set_option maxRecDepth 100000 in
theorem lay_I (x y : BitVec 64) (W : World) {S0 : List Nat} {W0 : World} (B : Nat) (hB : Kw.Mem S0 W0 W [(B, #[.int .i64 0, .int .i64 12, .int .i64 20], 89)]) : Calls Try.prog 46 #[.agg #[.slice (some ⟨B, 0, none⟩) 1 1, .int .i64 12, .bool true, .int .i64 0], .int .u64 (u x), .int .i64 (s y)] W fun e W' => e = .returned (.int .u64 (u (putI x 20 12 (getI y 0 12)))) ∧ Kw.Mem [] W W' [] := by
  have hM : W.heap[B]? = some (.cells #[.int .i64 0, .int .i64 12, .int .i64 20] 89 (0, 0)) := hB.get 0 rfl
  refine calls_of_wp Try.func46 rfl ?_
  have M0 : Kw.Mem [B] W W [(B, #[.int .i64 0, .int .i64 12, .int .i64 20], 89)] := Kw.Mem.begin1 hM
  refine Kw.to (b := ⟨#[.agg #[.slice (some ⟨B, 0, none⟩) 1 1, .int .i64 12, .bool true, .int .i64 0], .int .u64 (u x), .int .i64 (s y), undef, undef, undef, undef, undef, undef, undef, undef, undef, undef, undef, undef, undef, undef, undef, undef, undef, undef, undef, undef, undef, undef, undef, undef, undef, undef, undef, undef], []⟩) (by kernel_rfl) ?_
  refine wp_seq (Kw.region ?_)
  refine Kw.alloc #[.slice (some ⟨B, 0, none⟩) 1 1, .int .i64 12, .bool true, .int .i64 0] 64 M0 (by kernel_rfl) (by kernel_rfl) fun w1 B1 M1 => ?_
  refine KS.p (.int .u64 0) ?_
  refine KS.n5 ?_
  refine KS.p (.pointer (some ⟨B1, 0, none⟩)) ?_
  refine KS.l 62 B1 0 (.slice (some ⟨B, 0, none⟩) 1 1) M1 0 Try.underlying62 ?_
  refine KS.p (.int .i64 1) ?_
  refine KS.p (.int .i64 0) ?_
  refine Kw.fin (Kw.then_normal (wp_block ?_))
  refine wp_loop_rounds 2 ?_
  refine Kw.round_succ (wp_seq (Kw.region ?_))
  refine KS.p (.bool true) ?_
  refine Kw.fin (Kw.then_normal (wp_seq ?_))
  refine wp_cond_true (by kernel_rfl) ?_
  refine wp_skip (Kw.then_normal (wp_seq (wp_block (wp_seq (Kw.region ?_)))))
  refine KS.p (.pointer (some ⟨B, 0, none⟩)) ?_
  refine KS.la 89 B _ M1 1 Try.underlying89 ?_
  refine Kw.alloc #[.int .i64 0, .int .i64 0, .int .i64 0] 89 M1 (by kernel_rfl) (by kernel_rfl) fun w2 B2 M2 => ?_
  refine Kw.storeAll 0 89 #[.int .i64 0, .int .i64 12, .int .i64 20] M2 rfl (by kernel_rfl) (by kernel_rfl) (Eq.trans (b := 3) (by kernel_rfl) (by kernel_rfl)) (by kernel_rfl) (by kernel_rfl) fun w3 M3 => ?_
  refine KS.n2 ?_
  refine Canon.region_canon (I := fun w => Kw.Mem [B] W w [(B2, #[.int .i64 0, .int .i64 12, .int .i64 20], 89), (B1, #[.slice (some ⟨B, 0, none⟩) 1 1, .int .i64 12, .bool true, .int .i64 0], 64), (B, #[.int .i64 0, .int .i64 12, .int .i64 20], 89)]) (by kernel_rfl) (by decide +kernel) M3.drew' ?_
  refine KS.q (.int .u64 (u x)) ?_
  refine KS.q (.pointer (some ⟨B2, 2, none⟩)) ?_
  refine KS.ql 3 B2 2 (.int .i64 20) 0 Try.underlying3 ?_
  refine KS.q (.pointer (some ⟨B2, 1, none⟩)) ?_
  refine KS.ql 3 B2 1 (.int .i64 12) 0 Try.underlying3 ?_
  refine KS.q (.int .i64 (s y)) ?_
  refine Canon.pure (.int .u64 (u y)) (by kernel_rfl) (fun w => Kw.eqv (v := .int .u64 (IntKind.u64.wrap (s y))) (by kernel_rfl) (congrArg (Value.int .u64) (wrap_s y))) ?_
  refine KS.q (.pointer (some ⟨B2, 0, none⟩)) ?_
  refine KS.ql 3 B2 0 (.int .i64 0) 0 Try.underlying3 ?_
  refine KS.q (.pointer (some ⟨B2, 1, none⟩)) ?_
  refine KS.ql 3 B2 1 (.int .i64 12) 0 Try.underlying3 ?_
  refine Canon.call (.int .u64 (u (getI y 0 12))) 36 #[.int .u64 (u y), .int .i64 0, .int .i64 12] (by kernel_rfl) (fun w => by kernel_rfl) (fun w hw => (get_c y 0 12 w).mono fun r w1 ⟨he, hb⟩ => ⟨he, hw.call hb⟩) ?_
  refine Canon.call (.int .u64 (u (putI x 20 12 (getI y 0 12)))) 48 #[.int .u64 (u x), .int .i64 20, .int .i64 12, .int .u64 (u (getI y 0 12))] (by kernel_rfl) (fun w => by kernel_rfl) (fun w hw => (put_c x 20 12 (getI y 0 12) w).mono fun r w1 ⟨he, hb⟩ => ⟨he, hw.call hb⟩) ?_
  refine KS.q (.int .u64 (u (putI x 20 12 (getI y 0 12)))) ?_
  refine Canon.fin fun w4 M4 => ?_
  refine Kw.block_normal (Kw.then_normal (Kw.region ?_))
  refine KS.p (.int .i64 1) ?_
  refine KS.p (.int .i64 1) ?_
  refine Kw.fin (Kw.then_normal (Kw.round_succ (wp_seq (Kw.region ?_))))
  refine KS.p (.bool false) ?_
  refine Kw.fin (Kw.then_normal (wp_seq ?_))
  refine wp_cond_false (by kernel_rfl) ?_
  refine wp_exit (Kw.then_exit (Kw.then_exit (Kw.block_hit (Kw.then_normal (wp_seq (Kw.region ?_))))))
  refine KS.p (.int .u64 (u (putI x 20 12 (getI y 0 12)))) ?_
  refine KS.p (.int .u64 (u (putI x 20 12 (getI y 0 12)))) ?_
  refine Kw.fin (Kw.then_normal (wp_ret ?_))
  exact bodyPost_ret (v := .int .u64 (u (putI x 20 12 (getI y 0 12)))) (by kernel_rfl) (by kernel_rfl) ⟨rfl, Held.ro_drop M4 2 rfl hM⟩
set_option maxRecDepth 100000 in
theorem fits_I1 (y : BitVec 64) (W : World) {S0 : List Nat} {W0 : World} (B : Nat) (hB : Kw.Mem S0 W0 W [(B, #[.int .i64 0, .int .i64 12, .int .i64 20], 89)]) (hf : fitsI y 12 true = true) : Calls Try.prog 43 #[.agg #[.slice (some ⟨B, 0, none⟩) 1 1, .int .i64 12, .bool true, .int .i64 0], .int .i64 (s y)] W fun e W' => e = .returned (.bool ((u (y &&& (maskI 0))) == (0 : Int))) ∧ Kw.Mem [] W W' [] := by
  have hM : W.heap[B]? = some (.cells #[.int .i64 0, .int .i64 12, .int .i64 20] 89 (0, 0)) := hB.get 0 rfl
  refine calls_of_wp Try.func43 rfl ?_
  have M0 : Kw.Mem [B] W W [(B, #[.int .i64 0, .int .i64 12, .int .i64 20], 89)] := Kw.Mem.begin1 hM
  refine Kw.to (b := ⟨#[.agg #[.slice (some ⟨B, 0, none⟩) 1 1, .int .i64 12, .bool true, .int .i64 0], .int .i64 (s y), undef, undef, undef, undef, undef, undef, undef, undef, undef, undef, undef, undef, undef, undef, undef, undef, undef, undef, undef, undef, undef, undef, undef, undef], []⟩) (by kernel_rfl) ?_
  refine wp_seq (Kw.region ?_)
  refine Kw.alloc #[.slice (some ⟨B, 0, none⟩) 1 1, .int .i64 12, .bool true, .int .i64 0] 64 M0 (by kernel_rfl) (by kernel_rfl) fun w1 B1 M1 => ?_
  refine KS.p (.bool false) ?_
  refine KS.n4 ?_
  refine KS.p (.pointer (some ⟨B1, 0, none⟩)) ?_
  refine KS.l 62 B1 0 (.slice (some ⟨B, 0, none⟩) 1 1) M1 0 Try.underlying62 ?_
  refine KS.p (.int .i64 1) ?_
  refine KS.p (.bool false) ?_
  refine KS.p (.bool false) ?_
  refine KS.p (.int .i64 (s y)) ?_
  refine KS.p (.pointer (some ⟨B1, 1, none⟩)) ?_
  refine KS.l 3 B1 1 (.int .i64 12) M1 0 Try.underlying3 ?_
  refine KS.p (.pointer (some ⟨B1, 2, none⟩)) ?_
  refine KS.l 4 B1 2 (.bool true) M1 0 Try.underlying4 ?_
  refine KS.c (.bool true) 47 #[.int .i64 (s y), .int .i64 12, .bool true] M1 (by have h := fits_c y 12 true w1; rw [hf] at h; exact h) fun w2 M2 => ?_
  refine KS.p (.bool true) ?_
  refine KS.p (.int .i64 (s y)) ?_
  refine Kw.pure (.int .u64 (u y)) (by kernel_rfl) (Kw.eqv (v := .int .u64 (IntKind.u64.wrap (s y))) (by kernel_rfl) (congrArg (Value.int .u64) (wrap_s y))) ?_
  refine KS.p (.pointer (some ⟨B1, 3, none⟩)) ?_
  refine KS.l 3 B1 3 (.int .i64 0) M2 0 Try.underlying3 ?_
  refine KS.c (.int .u64 (u (maskI 0))) 58 #[.int .i64 0] M2 (mask_c 0 w2) fun w3 M3 => ?_
  refine Kw.pure (.int .u64 (u (y &&& (maskI 0)))) (by kernel_rfl) (Kw.eqv (v := .int .u64 (Go.bits .and .u64 ((u y)) ((u (maskI 0))))) (by kernel_rfl) (congrArg (Value.int .u64) (bits_and y (maskI 0)))) ?_
  refine KS.p (.bool ((u (y &&& (maskI 0))) == (0 : Int))) ?_
  refine KS.p (.bool ((u (y &&& (maskI 0))) == (0 : Int))) ?_
  refine KS.p (.bool ((u (y &&& (maskI 0))) == (0 : Int))) ?_
  refine KS.p (.bool ((u (y &&& (maskI 0))) == (0 : Int))) ?_
  refine Kw.fin (Kw.then_normal (wp_ret ?_))
  exact bodyPost_ret (v := .bool ((u (y &&& (maskI 0))) == (0 : Int))) (by kernel_rfl) (by kernel_rfl) ⟨rfl, Held.ro_drop M3 1 rfl hM⟩
set_option maxRecDepth 100000 in
theorem fits_I0 (y : BitVec 64) (W : World) {S0 : List Nat} {W0 : World} (B : Nat) (hB : Kw.Mem S0 W0 W [(B, #[.int .i64 0, .int .i64 12, .int .i64 20], 89)]) (hf : fitsI y 12 true = false) : Calls Try.prog 43 #[.agg #[.slice (some ⟨B, 0, none⟩) 1 1, .int .i64 12, .bool true, .int .i64 0], .int .i64 (s y)] W fun e W' => e = .returned (.bool false) ∧ Kw.Mem [] W W' [] := by
  have hM : W.heap[B]? = some (.cells #[.int .i64 0, .int .i64 12, .int .i64 20] 89 (0, 0)) := hB.get 0 rfl
  refine calls_of_wp Try.func43 rfl ?_
  have M0 : Kw.Mem [B] W W [(B, #[.int .i64 0, .int .i64 12, .int .i64 20], 89)] := Kw.Mem.begin1 hM
  refine Kw.to (b := ⟨#[.agg #[.slice (some ⟨B, 0, none⟩) 1 1, .int .i64 12, .bool true, .int .i64 0], .int .i64 (s y), undef, undef, undef, undef, undef, undef, undef, undef, undef, undef, undef, undef, undef, undef, undef, undef, undef, undef, undef, undef, undef, undef, undef, undef], []⟩) (by kernel_rfl) ?_
  refine wp_seq (Kw.region ?_)
  refine Kw.alloc #[.slice (some ⟨B, 0, none⟩) 1 1, .int .i64 12, .bool true, .int .i64 0] 64 M0 (by kernel_rfl) (by kernel_rfl) fun w1 B1 M1 => ?_
  refine KS.p (.bool false) ?_
  refine KS.n4 ?_
  refine KS.p (.pointer (some ⟨B1, 0, none⟩)) ?_
  refine KS.l 62 B1 0 (.slice (some ⟨B, 0, none⟩) 1 1) M1 0 Try.underlying62 ?_
  refine KS.p (.int .i64 1) ?_
  refine KS.p (.bool false) ?_
  refine KS.p (.bool false) ?_
  refine KS.p (.int .i64 (s y)) ?_
  refine KS.p (.pointer (some ⟨B1, 1, none⟩)) ?_
  refine KS.l 3 B1 1 (.int .i64 12) M1 0 Try.underlying3 ?_
  refine KS.p (.pointer (some ⟨B1, 2, none⟩)) ?_
  refine KS.l 4 B1 2 (.bool true) M1 0 Try.underlying4 ?_
  refine KS.c (.bool false) 47 #[.int .i64 (s y), .int .i64 12, .bool true] M1 (by have h := fits_c y 12 true w1; rw [hf] at h; exact h) fun w2 M2 => ?_
  refine KS.p (.bool false) ?_
  refine KS.k ?_
  refine KS.k ?_
  refine KS.k ?_
  refine KS.k ?_
  refine KS.k ?_
  refine KS.k ?_
  refine KS.k ?_
  refine KS.p (.bool false) ?_
  refine KS.p (.bool false) ?_
  refine KS.p (.bool false) ?_
  refine Kw.fin (Kw.then_normal (wp_ret ?_))
  exact bodyPost_ret (v := .bool false) (by kernel_rfl) (by kernel_rfl) ⟨rfl, Held.ro_drop M2 1 rfl hM⟩
set_option maxRecDepth 100000 in
theorem lay_C (x y : BitVec 64) (W : World) {S0 : List Nat} {W0 : World} (B : Nat) (hB : Kw.Mem S0 W0 W [(B, #[.int .i64 0, .int .i64 12, .int .i64 20], 89)]) : Calls Try.prog 46 #[.agg #[.slice (some ⟨B, 0, none⟩) 1 1, .int .i64 12, .bool false, .int .i64 0], .int .u64 (u x), .int .i64 (s y)] W fun e W' => e = .returned (.int .u64 (u (putI x 20 12 (getI y 0 12)))) ∧ Kw.Mem [] W W' [] := by
  have hM : W.heap[B]? = some (.cells #[.int .i64 0, .int .i64 12, .int .i64 20] 89 (0, 0)) := hB.get 0 rfl
  refine calls_of_wp Try.func46 rfl ?_
  have M0 : Kw.Mem [B] W W [(B, #[.int .i64 0, .int .i64 12, .int .i64 20], 89)] := Kw.Mem.begin1 hM
  refine Kw.to (b := ⟨#[.agg #[.slice (some ⟨B, 0, none⟩) 1 1, .int .i64 12, .bool false, .int .i64 0], .int .u64 (u x), .int .i64 (s y), undef, undef, undef, undef, undef, undef, undef, undef, undef, undef, undef, undef, undef, undef, undef, undef, undef, undef, undef, undef, undef, undef, undef, undef, undef, undef, undef, undef], []⟩) (by kernel_rfl) ?_
  refine wp_seq (Kw.region ?_)
  refine Kw.alloc #[.slice (some ⟨B, 0, none⟩) 1 1, .int .i64 12, .bool false, .int .i64 0] 64 M0 (by kernel_rfl) (by kernel_rfl) fun w1 B1 M1 => ?_
  refine KS.p (.int .u64 0) ?_
  refine KS.n5 ?_
  refine KS.p (.pointer (some ⟨B1, 0, none⟩)) ?_
  refine KS.l 62 B1 0 (.slice (some ⟨B, 0, none⟩) 1 1) M1 0 Try.underlying62 ?_
  refine KS.p (.int .i64 1) ?_
  refine KS.p (.int .i64 0) ?_
  refine Kw.fin (Kw.then_normal (wp_block ?_))
  refine wp_loop_rounds 2 ?_
  refine Kw.round_succ (wp_seq (Kw.region ?_))
  refine KS.p (.bool true) ?_
  refine Kw.fin (Kw.then_normal (wp_seq ?_))
  refine wp_cond_true (by kernel_rfl) ?_
  refine wp_skip (Kw.then_normal (wp_seq (wp_block (wp_seq (Kw.region ?_)))))
  refine KS.p (.pointer (some ⟨B, 0, none⟩)) ?_
  refine KS.la 89 B _ M1 1 Try.underlying89 ?_
  refine Kw.alloc #[.int .i64 0, .int .i64 0, .int .i64 0] 89 M1 (by kernel_rfl) (by kernel_rfl) fun w2 B2 M2 => ?_
  refine Kw.storeAll 0 89 #[.int .i64 0, .int .i64 12, .int .i64 20] M2 rfl (by kernel_rfl) (by kernel_rfl) (Eq.trans (b := 3) (by kernel_rfl) (by kernel_rfl)) (by kernel_rfl) (by kernel_rfl) fun w3 M3 => ?_
  refine KS.n2 ?_
  refine Canon.region_canon (I := fun w => Kw.Mem [B] W w [(B2, #[.int .i64 0, .int .i64 12, .int .i64 20], 89), (B1, #[.slice (some ⟨B, 0, none⟩) 1 1, .int .i64 12, .bool false, .int .i64 0], 64), (B, #[.int .i64 0, .int .i64 12, .int .i64 20], 89)]) (by kernel_rfl) (by decide +kernel) M3.drew' ?_
  refine KS.q (.int .u64 (u x)) ?_
  refine KS.q (.pointer (some ⟨B2, 2, none⟩)) ?_
  refine KS.ql 3 B2 2 (.int .i64 20) 0 Try.underlying3 ?_
  refine KS.q (.pointer (some ⟨B2, 1, none⟩)) ?_
  refine KS.ql 3 B2 1 (.int .i64 12) 0 Try.underlying3 ?_
  refine KS.q (.int .i64 (s y)) ?_
  refine Canon.pure (.int .u64 (u y)) (by kernel_rfl) (fun w => Kw.eqv (v := .int .u64 (IntKind.u64.wrap (s y))) (by kernel_rfl) (congrArg (Value.int .u64) (wrap_s y))) ?_
  refine KS.q (.pointer (some ⟨B2, 0, none⟩)) ?_
  refine KS.ql 3 B2 0 (.int .i64 0) 0 Try.underlying3 ?_
  refine KS.q (.pointer (some ⟨B2, 1, none⟩)) ?_
  refine KS.ql 3 B2 1 (.int .i64 12) 0 Try.underlying3 ?_
  refine Canon.call (.int .u64 (u (getI y 0 12))) 36 #[.int .u64 (u y), .int .i64 0, .int .i64 12] (by kernel_rfl) (fun w => by kernel_rfl) (fun w hw => (get_c y 0 12 w).mono fun r w1 ⟨he, hb⟩ => ⟨he, hw.call hb⟩) ?_
  refine Canon.call (.int .u64 (u (putI x 20 12 (getI y 0 12)))) 48 #[.int .u64 (u x), .int .i64 20, .int .i64 12, .int .u64 (u (getI y 0 12))] (by kernel_rfl) (fun w => by kernel_rfl) (fun w hw => (put_c x 20 12 (getI y 0 12) w).mono fun r w1 ⟨he, hb⟩ => ⟨he, hw.call hb⟩) ?_
  refine KS.q (.int .u64 (u (putI x 20 12 (getI y 0 12)))) ?_
  refine Canon.fin fun w4 M4 => ?_
  refine Kw.block_normal (Kw.then_normal (Kw.region ?_))
  refine KS.p (.int .i64 1) ?_
  refine KS.p (.int .i64 1) ?_
  refine Kw.fin (Kw.then_normal (Kw.round_succ (wp_seq (Kw.region ?_))))
  refine KS.p (.bool false) ?_
  refine Kw.fin (Kw.then_normal (wp_seq ?_))
  refine wp_cond_false (by kernel_rfl) ?_
  refine wp_exit (Kw.then_exit (Kw.then_exit (Kw.block_hit (Kw.then_normal (wp_seq (Kw.region ?_))))))
  refine KS.p (.int .u64 (u (putI x 20 12 (getI y 0 12)))) ?_
  refine KS.p (.int .u64 (u (putI x 20 12 (getI y 0 12)))) ?_
  refine Kw.fin (Kw.then_normal (wp_ret ?_))
  exact bodyPost_ret (v := .int .u64 (u (putI x 20 12 (getI y 0 12)))) (by kernel_rfl) (by kernel_rfl) ⟨rfl, Held.ro_drop M4 2 rfl hM⟩
set_option maxRecDepth 100000 in
theorem fits_C1 (y : BitVec 64) (W : World) {S0 : List Nat} {W0 : World} (B : Nat) (hB : Kw.Mem S0 W0 W [(B, #[.int .i64 0, .int .i64 12, .int .i64 20], 89)]) (hf : fitsI y 12 false = true) : Calls Try.prog 43 #[.agg #[.slice (some ⟨B, 0, none⟩) 1 1, .int .i64 12, .bool false, .int .i64 0], .int .i64 (s y)] W fun e W' => e = .returned (.bool ((u (y &&& (maskI 0))) == (0 : Int))) ∧ Kw.Mem [] W W' [] := by
  have hM : W.heap[B]? = some (.cells #[.int .i64 0, .int .i64 12, .int .i64 20] 89 (0, 0)) := hB.get 0 rfl
  refine calls_of_wp Try.func43 rfl ?_
  have M0 : Kw.Mem [B] W W [(B, #[.int .i64 0, .int .i64 12, .int .i64 20], 89)] := Kw.Mem.begin1 hM
  refine Kw.to (b := ⟨#[.agg #[.slice (some ⟨B, 0, none⟩) 1 1, .int .i64 12, .bool false, .int .i64 0], .int .i64 (s y), undef, undef, undef, undef, undef, undef, undef, undef, undef, undef, undef, undef, undef, undef, undef, undef, undef, undef, undef, undef, undef, undef, undef, undef], []⟩) (by kernel_rfl) ?_
  refine wp_seq (Kw.region ?_)
  refine Kw.alloc #[.slice (some ⟨B, 0, none⟩) 1 1, .int .i64 12, .bool false, .int .i64 0] 64 M0 (by kernel_rfl) (by kernel_rfl) fun w1 B1 M1 => ?_
  refine KS.p (.bool false) ?_
  refine KS.n4 ?_
  refine KS.p (.pointer (some ⟨B1, 0, none⟩)) ?_
  refine KS.l 62 B1 0 (.slice (some ⟨B, 0, none⟩) 1 1) M1 0 Try.underlying62 ?_
  refine KS.p (.int .i64 1) ?_
  refine KS.p (.bool false) ?_
  refine KS.p (.bool false) ?_
  refine KS.p (.int .i64 (s y)) ?_
  refine KS.p (.pointer (some ⟨B1, 1, none⟩)) ?_
  refine KS.l 3 B1 1 (.int .i64 12) M1 0 Try.underlying3 ?_
  refine KS.p (.pointer (some ⟨B1, 2, none⟩)) ?_
  refine KS.l 4 B1 2 (.bool false) M1 0 Try.underlying4 ?_
  refine KS.c (.bool true) 47 #[.int .i64 (s y), .int .i64 12, .bool false] M1 (by have h := fits_c y 12 false w1; rw [hf] at h; exact h) fun w2 M2 => ?_
  refine KS.p (.bool true) ?_
  refine KS.p (.int .i64 (s y)) ?_
  refine Kw.pure (.int .u64 (u y)) (by kernel_rfl) (Kw.eqv (v := .int .u64 (IntKind.u64.wrap (s y))) (by kernel_rfl) (congrArg (Value.int .u64) (wrap_s y))) ?_
  refine KS.p (.pointer (some ⟨B1, 3, none⟩)) ?_
  refine KS.l 3 B1 3 (.int .i64 0) M2 0 Try.underlying3 ?_
  refine KS.c (.int .u64 (u (maskI 0))) 58 #[.int .i64 0] M2 (mask_c 0 w2) fun w3 M3 => ?_
  refine Kw.pure (.int .u64 (u (y &&& (maskI 0)))) (by kernel_rfl) (Kw.eqv (v := .int .u64 (Go.bits .and .u64 ((u y)) ((u (maskI 0))))) (by kernel_rfl) (congrArg (Value.int .u64) (bits_and y (maskI 0)))) ?_
  refine KS.p (.bool ((u (y &&& (maskI 0))) == (0 : Int))) ?_
  refine KS.p (.bool ((u (y &&& (maskI 0))) == (0 : Int))) ?_
  refine KS.p (.bool ((u (y &&& (maskI 0))) == (0 : Int))) ?_
  refine KS.p (.bool ((u (y &&& (maskI 0))) == (0 : Int))) ?_
  refine Kw.fin (Kw.then_normal (wp_ret ?_))
  exact bodyPost_ret (v := .bool ((u (y &&& (maskI 0))) == (0 : Int))) (by kernel_rfl) (by kernel_rfl) ⟨rfl, Held.ro_drop M3 1 rfl hM⟩
set_option maxRecDepth 100000 in
theorem fits_C0 (y : BitVec 64) (W : World) {S0 : List Nat} {W0 : World} (B : Nat) (hB : Kw.Mem S0 W0 W [(B, #[.int .i64 0, .int .i64 12, .int .i64 20], 89)]) (hf : fitsI y 12 false = false) : Calls Try.prog 43 #[.agg #[.slice (some ⟨B, 0, none⟩) 1 1, .int .i64 12, .bool false, .int .i64 0], .int .i64 (s y)] W fun e W' => e = .returned (.bool false) ∧ Kw.Mem [] W W' [] := by
  have hM : W.heap[B]? = some (.cells #[.int .i64 0, .int .i64 12, .int .i64 20] 89 (0, 0)) := hB.get 0 rfl
  refine calls_of_wp Try.func43 rfl ?_
  have M0 : Kw.Mem [B] W W [(B, #[.int .i64 0, .int .i64 12, .int .i64 20], 89)] := Kw.Mem.begin1 hM
  refine Kw.to (b := ⟨#[.agg #[.slice (some ⟨B, 0, none⟩) 1 1, .int .i64 12, .bool false, .int .i64 0], .int .i64 (s y), undef, undef, undef, undef, undef, undef, undef, undef, undef, undef, undef, undef, undef, undef, undef, undef, undef, undef, undef, undef, undef, undef, undef, undef], []⟩) (by kernel_rfl) ?_
  refine wp_seq (Kw.region ?_)
  refine Kw.alloc #[.slice (some ⟨B, 0, none⟩) 1 1, .int .i64 12, .bool false, .int .i64 0] 64 M0 (by kernel_rfl) (by kernel_rfl) fun w1 B1 M1 => ?_
  refine KS.p (.bool false) ?_
  refine KS.n4 ?_
  refine KS.p (.pointer (some ⟨B1, 0, none⟩)) ?_
  refine KS.l 62 B1 0 (.slice (some ⟨B, 0, none⟩) 1 1) M1 0 Try.underlying62 ?_
  refine KS.p (.int .i64 1) ?_
  refine KS.p (.bool false) ?_
  refine KS.p (.bool false) ?_
  refine KS.p (.int .i64 (s y)) ?_
  refine KS.p (.pointer (some ⟨B1, 1, none⟩)) ?_
  refine KS.l 3 B1 1 (.int .i64 12) M1 0 Try.underlying3 ?_
  refine KS.p (.pointer (some ⟨B1, 2, none⟩)) ?_
  refine KS.l 4 B1 2 (.bool false) M1 0 Try.underlying4 ?_
  refine KS.c (.bool false) 47 #[.int .i64 (s y), .int .i64 12, .bool false] M1 (by have h := fits_c y 12 false w1; rw [hf] at h; exact h) fun w2 M2 => ?_
  refine KS.p (.bool false) ?_
  refine KS.k ?_
  refine KS.k ?_
  refine KS.k ?_
  refine KS.k ?_
  refine KS.k ?_
  refine KS.k ?_
  refine KS.k ?_
  refine KS.p (.bool false) ?_
  refine KS.p (.bool false) ?_
  refine KS.p (.bool false) ?_
  refine Kw.fin (Kw.then_normal (wp_ret ?_))
  exact bodyPost_ret (v := .bool false) (by kernel_rfl) (by kernel_rfl) ⟨rfl, Held.ro_drop M2 1 rfl hM⟩
set_option maxRecDepth 100000 in
theorem lay_H (x y : BitVec 64) (W : World) {S0 : List Nat} {W0 : World} (B : Nat) (hB : Kw.Mem S0 W0 W [(B, #[.int .i64 0, .int .i64 6, .int .i64 20], 89)]) : Calls Try.prog 46 #[.agg #[.slice (some ⟨B, 0, none⟩) 1 1, .int .i64 6, .bool false, .int .i64 0], .int .u64 (u x), .int .i64 (s y)] W fun e W' => e = .returned (.int .u64 (u (putI x 20 6 (getI y 0 6)))) ∧ Kw.Mem [] W W' [] := by
  have hM : W.heap[B]? = some (.cells #[.int .i64 0, .int .i64 6, .int .i64 20] 89 (0, 0)) := hB.get 0 rfl
  refine calls_of_wp Try.func46 rfl ?_
  have M0 : Kw.Mem [B] W W [(B, #[.int .i64 0, .int .i64 6, .int .i64 20], 89)] := Kw.Mem.begin1 hM
  refine Kw.to (b := ⟨#[.agg #[.slice (some ⟨B, 0, none⟩) 1 1, .int .i64 6, .bool false, .int .i64 0], .int .u64 (u x), .int .i64 (s y), undef, undef, undef, undef, undef, undef, undef, undef, undef, undef, undef, undef, undef, undef, undef, undef, undef, undef, undef, undef, undef, undef, undef, undef, undef, undef, undef, undef], []⟩) (by kernel_rfl) ?_
  refine wp_seq (Kw.region ?_)
  refine Kw.alloc #[.slice (some ⟨B, 0, none⟩) 1 1, .int .i64 6, .bool false, .int .i64 0] 64 M0 (by kernel_rfl) (by kernel_rfl) fun w1 B1 M1 => ?_
  refine KS.p (.int .u64 0) ?_
  refine KS.n5 ?_
  refine KS.p (.pointer (some ⟨B1, 0, none⟩)) ?_
  refine KS.l 62 B1 0 (.slice (some ⟨B, 0, none⟩) 1 1) M1 0 Try.underlying62 ?_
  refine KS.p (.int .i64 1) ?_
  refine KS.p (.int .i64 0) ?_
  refine Kw.fin (Kw.then_normal (wp_block ?_))
  refine wp_loop_rounds 2 ?_
  refine Kw.round_succ (wp_seq (Kw.region ?_))
  refine KS.p (.bool true) ?_
  refine Kw.fin (Kw.then_normal (wp_seq ?_))
  refine wp_cond_true (by kernel_rfl) ?_
  refine wp_skip (Kw.then_normal (wp_seq (wp_block (wp_seq (Kw.region ?_)))))
  refine KS.p (.pointer (some ⟨B, 0, none⟩)) ?_
  refine KS.la 89 B _ M1 1 Try.underlying89 ?_
  refine Kw.alloc #[.int .i64 0, .int .i64 0, .int .i64 0] 89 M1 (by kernel_rfl) (by kernel_rfl) fun w2 B2 M2 => ?_
  refine Kw.storeAll 0 89 #[.int .i64 0, .int .i64 6, .int .i64 20] M2 rfl (by kernel_rfl) (by kernel_rfl) (Eq.trans (b := 3) (by kernel_rfl) (by kernel_rfl)) (by kernel_rfl) (by kernel_rfl) fun w3 M3 => ?_
  refine KS.n2 ?_
  refine Canon.region_canon (I := fun w => Kw.Mem [B] W w [(B2, #[.int .i64 0, .int .i64 6, .int .i64 20], 89), (B1, #[.slice (some ⟨B, 0, none⟩) 1 1, .int .i64 6, .bool false, .int .i64 0], 64), (B, #[.int .i64 0, .int .i64 6, .int .i64 20], 89)]) (by kernel_rfl) (by decide +kernel) M3.drew' ?_
  refine KS.q (.int .u64 (u x)) ?_
  refine KS.q (.pointer (some ⟨B2, 2, none⟩)) ?_
  refine KS.ql 3 B2 2 (.int .i64 20) 0 Try.underlying3 ?_
  refine KS.q (.pointer (some ⟨B2, 1, none⟩)) ?_
  refine KS.ql 3 B2 1 (.int .i64 6) 0 Try.underlying3 ?_
  refine KS.q (.int .i64 (s y)) ?_
  refine Canon.pure (.int .u64 (u y)) (by kernel_rfl) (fun w => Kw.eqv (v := .int .u64 (IntKind.u64.wrap (s y))) (by kernel_rfl) (congrArg (Value.int .u64) (wrap_s y))) ?_
  refine KS.q (.pointer (some ⟨B2, 0, none⟩)) ?_
  refine KS.ql 3 B2 0 (.int .i64 0) 0 Try.underlying3 ?_
  refine KS.q (.pointer (some ⟨B2, 1, none⟩)) ?_
  refine KS.ql 3 B2 1 (.int .i64 6) 0 Try.underlying3 ?_
  refine Canon.call (.int .u64 (u (getI y 0 6))) 36 #[.int .u64 (u y), .int .i64 0, .int .i64 6] (by kernel_rfl) (fun w => by kernel_rfl) (fun w hw => (get_c y 0 6 w).mono fun r w1 ⟨he, hb⟩ => ⟨he, hw.call hb⟩) ?_
  refine Canon.call (.int .u64 (u (putI x 20 6 (getI y 0 6)))) 48 #[.int .u64 (u x), .int .i64 20, .int .i64 6, .int .u64 (u (getI y 0 6))] (by kernel_rfl) (fun w => by kernel_rfl) (fun w hw => (put_c x 20 6 (getI y 0 6) w).mono fun r w1 ⟨he, hb⟩ => ⟨he, hw.call hb⟩) ?_
  refine KS.q (.int .u64 (u (putI x 20 6 (getI y 0 6)))) ?_
  refine Canon.fin fun w4 M4 => ?_
  refine Kw.block_normal (Kw.then_normal (Kw.region ?_))
  refine KS.p (.int .i64 1) ?_
  refine KS.p (.int .i64 1) ?_
  refine Kw.fin (Kw.then_normal (Kw.round_succ (wp_seq (Kw.region ?_))))
  refine KS.p (.bool false) ?_
  refine Kw.fin (Kw.then_normal (wp_seq ?_))
  refine wp_cond_false (by kernel_rfl) ?_
  refine wp_exit (Kw.then_exit (Kw.then_exit (Kw.block_hit (Kw.then_normal (wp_seq (Kw.region ?_))))))
  refine KS.p (.int .u64 (u (putI x 20 6 (getI y 0 6)))) ?_
  refine KS.p (.int .u64 (u (putI x 20 6 (getI y 0 6)))) ?_
  refine Kw.fin (Kw.then_normal (wp_ret ?_))
  exact bodyPost_ret (v := .int .u64 (u (putI x 20 6 (getI y 0 6)))) (by kernel_rfl) (by kernel_rfl) ⟨rfl, Held.ro_drop M4 2 rfl hM⟩
set_option maxRecDepth 100000 in
theorem fits_H1 (y : BitVec 64) (W : World) {S0 : List Nat} {W0 : World} (B : Nat) (hB : Kw.Mem S0 W0 W [(B, #[.int .i64 0, .int .i64 6, .int .i64 20], 89)]) (hf : fitsI y 6 false = true) : Calls Try.prog 43 #[.agg #[.slice (some ⟨B, 0, none⟩) 1 1, .int .i64 6, .bool false, .int .i64 0], .int .i64 (s y)] W fun e W' => e = .returned (.bool ((u (y &&& (maskI 0))) == (0 : Int))) ∧ Kw.Mem [] W W' [] := by
  have hM : W.heap[B]? = some (.cells #[.int .i64 0, .int .i64 6, .int .i64 20] 89 (0, 0)) := hB.get 0 rfl
  refine calls_of_wp Try.func43 rfl ?_
  have M0 : Kw.Mem [B] W W [(B, #[.int .i64 0, .int .i64 6, .int .i64 20], 89)] := Kw.Mem.begin1 hM
  refine Kw.to (b := ⟨#[.agg #[.slice (some ⟨B, 0, none⟩) 1 1, .int .i64 6, .bool false, .int .i64 0], .int .i64 (s y), undef, undef, undef, undef, undef, undef, undef, undef, undef, undef, undef, undef, undef, undef, undef, undef, undef, undef, undef, undef, undef, undef, undef, undef], []⟩) (by kernel_rfl) ?_
  refine wp_seq (Kw.region ?_)
  refine Kw.alloc #[.slice (some ⟨B, 0, none⟩) 1 1, .int .i64 6, .bool false, .int .i64 0] 64 M0 (by kernel_rfl) (by kernel_rfl) fun w1 B1 M1 => ?_
  refine KS.p (.bool false) ?_
  refine KS.n4 ?_
  refine KS.p (.pointer (some ⟨B1, 0, none⟩)) ?_
  refine KS.l 62 B1 0 (.slice (some ⟨B, 0, none⟩) 1 1) M1 0 Try.underlying62 ?_
  refine KS.p (.int .i64 1) ?_
  refine KS.p (.bool false) ?_
  refine KS.p (.bool false) ?_
  refine KS.p (.int .i64 (s y)) ?_
  refine KS.p (.pointer (some ⟨B1, 1, none⟩)) ?_
  refine KS.l 3 B1 1 (.int .i64 6) M1 0 Try.underlying3 ?_
  refine KS.p (.pointer (some ⟨B1, 2, none⟩)) ?_
  refine KS.l 4 B1 2 (.bool false) M1 0 Try.underlying4 ?_
  refine KS.c (.bool true) 47 #[.int .i64 (s y), .int .i64 6, .bool false] M1 (by have h := fits_c y 6 false w1; rw [hf] at h; exact h) fun w2 M2 => ?_
  refine KS.p (.bool true) ?_
  refine KS.p (.int .i64 (s y)) ?_
  refine Kw.pure (.int .u64 (u y)) (by kernel_rfl) (Kw.eqv (v := .int .u64 (IntKind.u64.wrap (s y))) (by kernel_rfl) (congrArg (Value.int .u64) (wrap_s y))) ?_
  refine KS.p (.pointer (some ⟨B1, 3, none⟩)) ?_
  refine KS.l 3 B1 3 (.int .i64 0) M2 0 Try.underlying3 ?_
  refine KS.c (.int .u64 (u (maskI 0))) 58 #[.int .i64 0] M2 (mask_c 0 w2) fun w3 M3 => ?_
  refine Kw.pure (.int .u64 (u (y &&& (maskI 0)))) (by kernel_rfl) (Kw.eqv (v := .int .u64 (Go.bits .and .u64 ((u y)) ((u (maskI 0))))) (by kernel_rfl) (congrArg (Value.int .u64) (bits_and y (maskI 0)))) ?_
  refine KS.p (.bool ((u (y &&& (maskI 0))) == (0 : Int))) ?_
  refine KS.p (.bool ((u (y &&& (maskI 0))) == (0 : Int))) ?_
  refine KS.p (.bool ((u (y &&& (maskI 0))) == (0 : Int))) ?_
  refine KS.p (.bool ((u (y &&& (maskI 0))) == (0 : Int))) ?_
  refine Kw.fin (Kw.then_normal (wp_ret ?_))
  exact bodyPost_ret (v := .bool ((u (y &&& (maskI 0))) == (0 : Int))) (by kernel_rfl) (by kernel_rfl) ⟨rfl, Held.ro_drop M3 1 rfl hM⟩
set_option maxRecDepth 100000 in
theorem fits_H0 (y : BitVec 64) (W : World) {S0 : List Nat} {W0 : World} (B : Nat) (hB : Kw.Mem S0 W0 W [(B, #[.int .i64 0, .int .i64 6, .int .i64 20], 89)]) (hf : fitsI y 6 false = false) : Calls Try.prog 43 #[.agg #[.slice (some ⟨B, 0, none⟩) 1 1, .int .i64 6, .bool false, .int .i64 0], .int .i64 (s y)] W fun e W' => e = .returned (.bool false) ∧ Kw.Mem [] W W' [] := by
  have hM : W.heap[B]? = some (.cells #[.int .i64 0, .int .i64 6, .int .i64 20] 89 (0, 0)) := hB.get 0 rfl
  refine calls_of_wp Try.func43 rfl ?_
  have M0 : Kw.Mem [B] W W [(B, #[.int .i64 0, .int .i64 6, .int .i64 20], 89)] := Kw.Mem.begin1 hM
  refine Kw.to (b := ⟨#[.agg #[.slice (some ⟨B, 0, none⟩) 1 1, .int .i64 6, .bool false, .int .i64 0], .int .i64 (s y), undef, undef, undef, undef, undef, undef, undef, undef, undef, undef, undef, undef, undef, undef, undef, undef, undef, undef, undef, undef, undef, undef, undef, undef], []⟩) (by kernel_rfl) ?_
  refine wp_seq (Kw.region ?_)
  refine Kw.alloc #[.slice (some ⟨B, 0, none⟩) 1 1, .int .i64 6, .bool false, .int .i64 0] 64 M0 (by kernel_rfl) (by kernel_rfl) fun w1 B1 M1 => ?_
  refine KS.p (.bool false) ?_
  refine KS.n4 ?_
  refine KS.p (.pointer (some ⟨B1, 0, none⟩)) ?_
  refine KS.l 62 B1 0 (.slice (some ⟨B, 0, none⟩) 1 1) M1 0 Try.underlying62 ?_
  refine KS.p (.int .i64 1) ?_
  refine KS.p (.bool false) ?_
  refine KS.p (.bool false) ?_
  refine KS.p (.int .i64 (s y)) ?_
  refine KS.p (.pointer (some ⟨B1, 1, none⟩)) ?_
  refine KS.l 3 B1 1 (.int .i64 6) M1 0 Try.underlying3 ?_
  refine KS.p (.pointer (some ⟨B1, 2, none⟩)) ?_
  refine KS.l 4 B1 2 (.bool false) M1 0 Try.underlying4 ?_
  refine KS.c (.bool false) 47 #[.int .i64 (s y), .int .i64 6, .bool false] M1 (by have h := fits_c y 6 false w1; rw [hf] at h; exact h) fun w2 M2 => ?_
  refine KS.p (.bool false) ?_
  refine KS.k ?_
  refine KS.k ?_
  refine KS.k ?_
  refine KS.k ?_
  refine KS.k ?_
  refine KS.k ?_
  refine KS.k ?_
  refine KS.p (.bool false) ?_
  refine KS.p (.bool false) ?_
  refine KS.p (.bool false) ?_
  refine Kw.fin (Kw.then_normal (wp_ret ?_))
  exact bodyPost_ret (v := .bool false) (by kernel_rfl) (by kernel_rfl) ⟨rfl, Held.ro_drop M2 1 rfl hM⟩
set_option maxRecDepth 100000 in
theorem lay_S (x y : BitVec 64) (W : World) {S0 : List Nat} {W0 : World} (B : Nat) (hB : Kw.Mem S0 W0 W [(B, #[.int .i64 0, .int .i64 5, .int .i64 7, .int .i64 5, .int .i64 7, .int .i64 25], 89)]) : Calls Try.prog 46 #[.agg #[.slice (some ⟨B, 0, none⟩) 2 2, .int .i64 12, .bool true, .int .i64 0], .int .u64 (u x), .int .i64 (s y)] W fun e W' => e = .returned (.int .u64 (u (putI (putI x 7 5 (getI y 0 5)) 25 7 (getI y 5 7)))) ∧ Kw.Mem [] W W' [] := by
  have hM : W.heap[B]? = some (.cells #[.int .i64 0, .int .i64 5, .int .i64 7, .int .i64 5, .int .i64 7, .int .i64 25] 89 (0, 0)) := hB.get 0 rfl
  refine calls_of_wp Try.func46 rfl ?_
  have M0 : Kw.Mem [B] W W [(B, #[.int .i64 0, .int .i64 5, .int .i64 7, .int .i64 5, .int .i64 7, .int .i64 25], 89)] := Kw.Mem.begin1 hM
  refine Kw.to (b := ⟨#[.agg #[.slice (some ⟨B, 0, none⟩) 2 2, .int .i64 12, .bool true, .int .i64 0], .int .u64 (u x), .int .i64 (s y), undef, undef, undef, undef, undef, undef, undef, undef, undef, undef, undef, undef, undef, undef, undef, undef, undef, undef, undef, undef, undef, undef, undef, undef, undef, undef, undef, undef], []⟩) (by kernel_rfl) ?_
  refine wp_seq (Kw.region ?_)
  refine Kw.alloc #[.slice (some ⟨B, 0, none⟩) 2 2, .int .i64 12, .bool true, .int .i64 0] 64 M0 (by kernel_rfl) (by kernel_rfl) fun w1 B1 M1 => ?_
  refine KS.p (.int .u64 0) ?_
  refine KS.n5 ?_
  refine KS.p (.pointer (some ⟨B1, 0, none⟩)) ?_
  refine KS.l 62 B1 0 (.slice (some ⟨B, 0, none⟩) 2 2) M1 0 Try.underlying62 ?_
  refine KS.p (.int .i64 2) ?_
  refine KS.p (.int .i64 0) ?_
  refine Kw.fin (Kw.then_normal (wp_block ?_))
  refine wp_loop_rounds 3 ?_
  refine Kw.round_succ (wp_seq (Kw.region ?_))
  refine KS.p (.bool true) ?_
  refine Kw.fin (Kw.then_normal (wp_seq ?_))
  refine wp_cond_true (by kernel_rfl) ?_
  refine wp_skip (Kw.then_normal (wp_seq (wp_block (wp_seq (Kw.region ?_)))))
  refine KS.p (.pointer (some ⟨B, 0, none⟩)) ?_
  refine KS.s (Canon.ldS 89 (.pointer (some ⟨B, 0, none⟩))) (.agg #[.int .i64 0, .int .i64 5, .int .i64 7]) (Kw.ld_mid 89 0 [.int .i64 0, .int .i64 5, .int .i64 7] (M1.get 1 rfl) (by kernel_rfl) _ Try.underlying89 rfl (by kernel_rfl)) ?_
  refine Kw.alloc #[.int .i64 0, .int .i64 0, .int .i64 0] 89 M1 (by kernel_rfl) (by kernel_rfl) fun w2 B2 M2 => ?_
  refine Kw.storeAll 0 89 #[.int .i64 0, .int .i64 5, .int .i64 7] M2 rfl (by kernel_rfl) (by kernel_rfl) (Eq.trans (b := 3) (by kernel_rfl) (by kernel_rfl)) (by kernel_rfl) (by kernel_rfl) fun w3 M3 => ?_
  refine KS.n2 ?_
  refine Canon.region_canon (I := fun w => Kw.Mem [B] W w [(B2, #[.int .i64 0, .int .i64 5, .int .i64 7], 89), (B1, #[.slice (some ⟨B, 0, none⟩) 2 2, .int .i64 12, .bool true, .int .i64 0], 64), (B, #[.int .i64 0, .int .i64 5, .int .i64 7, .int .i64 5, .int .i64 7, .int .i64 25], 89)]) (by kernel_rfl) (by decide +kernel) M3.drew' ?_
  refine KS.q (.int .u64 (u x)) ?_
  refine KS.q (.pointer (some ⟨B2, 2, none⟩)) ?_
  refine KS.ql 3 B2 2 (.int .i64 7) 0 Try.underlying3 ?_
  refine KS.q (.pointer (some ⟨B2, 1, none⟩)) ?_
  refine KS.ql 3 B2 1 (.int .i64 5) 0 Try.underlying3 ?_
  refine KS.q (.int .i64 (s y)) ?_
  refine Canon.pure (.int .u64 (u y)) (by kernel_rfl) (fun w => Kw.eqv (v := .int .u64 (IntKind.u64.wrap (s y))) (by kernel_rfl) (congrArg (Value.int .u64) (wrap_s y))) ?_
  refine KS.q (.pointer (some ⟨B2, 0, none⟩)) ?_
  refine KS.ql 3 B2 0 (.int .i64 0) 0 Try.underlying3 ?_
  refine KS.q (.pointer (some ⟨B2, 1, none⟩)) ?_
  refine KS.ql 3 B2 1 (.int .i64 5) 0 Try.underlying3 ?_
  refine Canon.call (.int .u64 (u (getI y 0 5))) 36 #[.int .u64 (u y), .int .i64 0, .int .i64 5] (by kernel_rfl) (fun w => by kernel_rfl) (fun w hw => (get_c y 0 5 w).mono fun r w1 ⟨he, hb⟩ => ⟨he, hw.call hb⟩) ?_
  refine Canon.call (.int .u64 (u (putI x 7 5 (getI y 0 5)))) 48 #[.int .u64 (u x), .int .i64 7, .int .i64 5, .int .u64 (u (getI y 0 5))] (by kernel_rfl) (fun w => by kernel_rfl) (fun w hw => (put_c x 7 5 (getI y 0 5) w).mono fun r w1 ⟨he, hb⟩ => ⟨he, hw.call hb⟩) ?_
  refine KS.q (.int .u64 (u (putI x 7 5 (getI y 0 5)))) ?_
  refine Canon.fin fun w4 M4 => ?_
  refine Kw.block_normal (Kw.then_normal (Kw.region ?_))
  refine KS.p (.int .i64 1) ?_
  refine KS.p (.int .i64 1) ?_
  refine Kw.fin (Kw.then_normal (Kw.round_succ (wp_seq (Kw.region ?_))))
  refine KS.p (.bool true) ?_
  refine Kw.fin (Kw.then_normal (wp_seq ?_))
  refine wp_cond_true (by kernel_rfl) ?_
  refine wp_skip (Kw.then_normal (wp_seq (wp_block (wp_seq (Kw.region ?_)))))
  refine KS.p (.pointer (some ⟨B, 3, none⟩)) ?_
  refine KS.s (Canon.ldS 89 (.pointer (some ⟨B, 3, none⟩))) (.agg #[.int .i64 5, .int .i64 7, .int .i64 25]) (Kw.ld_mid 89 3 [.int .i64 5, .int .i64 7, .int .i64 25] (M4.get 2 rfl) (by kernel_rfl) _ Try.underlying89 rfl (by kernel_rfl)) ?_
  refine Kw.alloc #[.int .i64 0, .int .i64 0, .int .i64 0] 89 M4 (by kernel_rfl) (by kernel_rfl) fun w5 B5 M5 => ?_
  refine Kw.storeAll 0 89 #[.int .i64 5, .int .i64 7, .int .i64 25] M5 rfl (by kernel_rfl) (by kernel_rfl) (Eq.trans (b := 3) (by kernel_rfl) (by kernel_rfl)) (by kernel_rfl) (by kernel_rfl) fun w6 M6 => ?_
  refine KS.n2 ?_
  refine Canon.region_canon (I := fun w => Kw.Mem [B] W w [(B5, #[.int .i64 5, .int .i64 7, .int .i64 25], 89), (B2, #[.int .i64 0, .int .i64 5, .int .i64 7], 89), (B1, #[.slice (some ⟨B, 0, none⟩) 2 2, .int .i64 12, .bool true, .int .i64 0], 64), (B, #[.int .i64 0, .int .i64 5, .int .i64 7, .int .i64 5, .int .i64 7, .int .i64 25], 89)]) (by kernel_rfl) (by decide +kernel) M6.drew' ?_
  refine KS.q (.int .u64 (u (putI x 7 5 (getI y 0 5)))) ?_
  refine KS.q (.pointer (some ⟨B5, 2, none⟩)) ?_
  refine KS.ql 3 B5 2 (.int .i64 25) 0 Try.underlying3 ?_
  refine KS.q (.pointer (some ⟨B5, 1, none⟩)) ?_
  refine KS.ql 3 B5 1 (.int .i64 7) 0 Try.underlying3 ?_
  refine KS.q (.int .i64 (s y)) ?_
  refine Canon.pure (.int .u64 (u y)) (by kernel_rfl) (fun w => Kw.eqv (v := .int .u64 (IntKind.u64.wrap (s y))) (by kernel_rfl) (congrArg (Value.int .u64) (wrap_s y))) ?_
  refine KS.q (.pointer (some ⟨B5, 0, none⟩)) ?_
  refine KS.ql 3 B5 0 (.int .i64 5) 0 Try.underlying3 ?_
  refine KS.q (.pointer (some ⟨B5, 1, none⟩)) ?_
  refine KS.ql 3 B5 1 (.int .i64 7) 0 Try.underlying3 ?_
  refine Canon.call (.int .u64 (u (getI y 5 7))) 36 #[.int .u64 (u y), .int .i64 5, .int .i64 7] (by kernel_rfl) (fun w => by kernel_rfl) (fun w hw => (get_c y 5 7 w).mono fun r w1 ⟨he, hb⟩ => ⟨he, hw.call hb⟩) ?_
  refine Canon.call (.int .u64 (u (putI (putI x 7 5 (getI y 0 5)) 25 7 (getI y 5 7)))) 48 #[.int .u64 (u (putI x 7 5 (getI y 0 5))), .int .i64 25, .int .i64 7, .int .u64 (u (getI y 5 7))] (by kernel_rfl) (fun w => by kernel_rfl) (fun w hw => (put_c (putI x 7 5 (getI y 0 5)) 25 7 (getI y 5 7) w).mono fun r w1 ⟨he, hb⟩ => ⟨he, hw.call hb⟩) ?_
  refine KS.q (.int .u64 (u (putI (putI x 7 5 (getI y 0 5)) 25 7 (getI y 5 7)))) ?_
  refine Canon.fin fun w7 M7 => ?_
  refine Kw.block_normal (Kw.then_normal ?_)
  refine Kw.to (b := ⟨#[.agg #[.slice (some ⟨B, 0, none⟩) 2 2, .int .i64 12, .bool true, .int .i64 0], .int .u64 (u (putI (putI x 7 5 (getI y 0 5)) 25 7 (getI y 5 7))), .int .i64 (s y), .pointer (some ⟨B1, 0, none⟩), undef, undef, .int .u64 0, undef, .pointer (some ⟨B5, 0, none⟩), .pointer (some ⟨B1, 0, none⟩), .slice (some ⟨B, 0, none⟩) 2 2, .int .i64 2, .int .i64 1, .bool true, .pointer (some ⟨B, 3, none⟩), .agg #[.int .i64 5, .int .i64 7, .int .i64 25], .int .u64 (u (putI x 7 5 (getI y 0 5))), .pointer (some ⟨B5, 2, none⟩), .int .i64 25, .pointer (some ⟨B5, 1, none⟩), .int .i64 7, .int .i64 (s y), .int .u64 (u y), .pointer (some ⟨B5, 0, none⟩), .int .i64 5, .pointer (some ⟨B5, 1, none⟩), .int .i64 7, .int .u64 (u (getI y 5 7)), .int .u64 (u (putI (putI x 7 5 (getI y 0 5)) 25 7 (getI y 5 7))), .int .i64 1, undef], []⟩) (by kernel_rfl) ?_
  refine Kw.region ?_
  refine KS.p (.int .i64 2) ?_
  refine KS.p (.int .i64 2) ?_
  refine Kw.fin (Kw.then_normal (Kw.round_succ (wp_seq (Kw.region ?_))))
  refine KS.p (.bool false) ?_
  refine Kw.fin (Kw.then_normal (wp_seq ?_))
  refine wp_cond_false (by kernel_rfl) ?_
  refine wp_exit (Kw.then_exit (Kw.then_exit (Kw.block_hit (Kw.then_normal (wp_seq (Kw.region ?_))))))
  refine KS.p (.int .u64 (u (putI (putI x 7 5 (getI y 0 5)) 25 7 (getI y 5 7)))) ?_
  refine KS.p (.int .u64 (u (putI (putI x 7 5 (getI y 0 5)) 25 7 (getI y 5 7)))) ?_
  refine Kw.fin (Kw.then_normal (wp_ret ?_))
  exact bodyPost_ret (v := .int .u64 (u (putI (putI x 7 5 (getI y 0 5)) 25 7 (getI y 5 7)))) (by kernel_rfl) (by kernel_rfl) ⟨rfl, Held.ro_drop M7 3 rfl hM⟩
set_option maxRecDepth 100000 in
theorem fits_S1 (y : BitVec 64) (W : World) {S0 : List Nat} {W0 : World} (B : Nat) (hB : Kw.Mem S0 W0 W [(B, #[.int .i64 0, .int .i64 5, .int .i64 7, .int .i64 5, .int .i64 7, .int .i64 25], 89)]) (hf : fitsI y 12 true = true) : Calls Try.prog 43 #[.agg #[.slice (some ⟨B, 0, none⟩) 2 2, .int .i64 12, .bool true, .int .i64 0], .int .i64 (s y)] W fun e W' => e = .returned (.bool ((u (y &&& (maskI 0))) == (0 : Int))) ∧ Kw.Mem [] W W' [] := by
  have hM : W.heap[B]? = some (.cells #[.int .i64 0, .int .i64 5, .int .i64 7, .int .i64 5, .int .i64 7, .int .i64 25] 89 (0, 0)) := hB.get 0 rfl
  refine calls_of_wp Try.func43 rfl ?_
  have M0 : Kw.Mem [B] W W [(B, #[.int .i64 0, .int .i64 5, .int .i64 7, .int .i64 5, .int .i64 7, .int .i64 25], 89)] := Kw.Mem.begin1 hM
  refine Kw.to (b := ⟨#[.agg #[.slice (some ⟨B, 0, none⟩) 2 2, .int .i64 12, .bool true, .int .i64 0], .int .i64 (s y), undef, undef, undef, undef, undef, undef, undef, undef, undef, undef, undef, undef, undef, undef, undef, undef, undef, undef, undef, undef, undef, undef, undef, undef], []⟩) (by kernel_rfl) ?_
  refine wp_seq (Kw.region ?_)
  refine Kw.alloc #[.slice (some ⟨B, 0, none⟩) 2 2, .int .i64 12, .bool true, .int .i64 0] 64 M0 (by kernel_rfl) (by kernel_rfl) fun w1 B1 M1 => ?_
  refine KS.p (.bool false) ?_
  refine KS.n4 ?_
  refine KS.p (.pointer (some ⟨B1, 0, none⟩)) ?_
  refine KS.l 62 B1 0 (.slice (some ⟨B, 0, none⟩) 2 2) M1 0 Try.underlying62 ?_
  refine KS.p (.int .i64 2) ?_
  refine KS.p (.bool false) ?_
  refine KS.p (.bool false) ?_
  refine KS.p (.int .i64 (s y)) ?_
  refine KS.p (.pointer (some ⟨B1, 1, none⟩)) ?_
  refine KS.l 3 B1 1 (.int .i64 12) M1 0 Try.underlying3 ?_
  refine KS.p (.pointer (some ⟨B1, 2, none⟩)) ?_
  refine KS.l 4 B1 2 (.bool true) M1 0 Try.underlying4 ?_
  refine KS.c (.bool true) 47 #[.int .i64 (s y), .int .i64 12, .bool true] M1 (by have h := fits_c y 12 true w1; rw [hf] at h; exact h) fun w2 M2 => ?_
  refine KS.p (.bool true) ?_
  refine KS.p (.int .i64 (s y)) ?_
  refine Kw.pure (.int .u64 (u y)) (by kernel_rfl) (Kw.eqv (v := .int .u64 (IntKind.u64.wrap (s y))) (by kernel_rfl) (congrArg (Value.int .u64) (wrap_s y))) ?_
  refine KS.p (.pointer (some ⟨B1, 3, none⟩)) ?_
  refine KS.l 3 B1 3 (.int .i64 0) M2 0 Try.underlying3 ?_
  refine KS.c (.int .u64 (u (maskI 0))) 58 #[.int .i64 0] M2 (mask_c 0 w2) fun w3 M3 => ?_
  refine Kw.pure (.int .u64 (u (y &&& (maskI 0)))) (by kernel_rfl) (Kw.eqv (v := .int .u64 (Go.bits .and .u64 ((u y)) ((u (maskI 0))))) (by kernel_rfl) (congrArg (Value.int .u64) (bits_and y (maskI 0)))) ?_
  refine KS.p (.bool ((u (y &&& (maskI 0))) == (0 : Int))) ?_
  refine KS.p (.bool ((u (y &&& (maskI 0))) == (0 : Int))) ?_
  refine KS.p (.bool ((u (y &&& (maskI 0))) == (0 : Int))) ?_
  refine KS.p (.bool ((u (y &&& (maskI 0))) == (0 : Int))) ?_
  refine Kw.fin (Kw.then_normal (wp_ret ?_))
  exact bodyPost_ret (v := .bool ((u (y &&& (maskI 0))) == (0 : Int))) (by kernel_rfl) (by kernel_rfl) ⟨rfl, Held.ro_drop M3 1 rfl hM⟩
set_option maxRecDepth 100000 in
theorem fits_S0 (y : BitVec 64) (W : World) {S0 : List Nat} {W0 : World} (B : Nat) (hB : Kw.Mem S0 W0 W [(B, #[.int .i64 0, .int .i64 5, .int .i64 7, .int .i64 5, .int .i64 7, .int .i64 25], 89)]) (hf : fitsI y 12 true = false) : Calls Try.prog 43 #[.agg #[.slice (some ⟨B, 0, none⟩) 2 2, .int .i64 12, .bool true, .int .i64 0], .int .i64 (s y)] W fun e W' => e = .returned (.bool false) ∧ Kw.Mem [] W W' [] := by
  have hM : W.heap[B]? = some (.cells #[.int .i64 0, .int .i64 5, .int .i64 7, .int .i64 5, .int .i64 7, .int .i64 25] 89 (0, 0)) := hB.get 0 rfl
  refine calls_of_wp Try.func43 rfl ?_
  have M0 : Kw.Mem [B] W W [(B, #[.int .i64 0, .int .i64 5, .int .i64 7, .int .i64 5, .int .i64 7, .int .i64 25], 89)] := Kw.Mem.begin1 hM
  refine Kw.to (b := ⟨#[.agg #[.slice (some ⟨B, 0, none⟩) 2 2, .int .i64 12, .bool true, .int .i64 0], .int .i64 (s y), undef, undef, undef, undef, undef, undef, undef, undef, undef, undef, undef, undef, undef, undef, undef, undef, undef, undef, undef, undef, undef, undef, undef, undef], []⟩) (by kernel_rfl) ?_
  refine wp_seq (Kw.region ?_)
  refine Kw.alloc #[.slice (some ⟨B, 0, none⟩) 2 2, .int .i64 12, .bool true, .int .i64 0] 64 M0 (by kernel_rfl) (by kernel_rfl) fun w1 B1 M1 => ?_
  refine KS.p (.bool false) ?_
  refine KS.n4 ?_
  refine KS.p (.pointer (some ⟨B1, 0, none⟩)) ?_
  refine KS.l 62 B1 0 (.slice (some ⟨B, 0, none⟩) 2 2) M1 0 Try.underlying62 ?_
  refine KS.p (.int .i64 2) ?_
  refine KS.p (.bool false) ?_
  refine KS.p (.bool false) ?_
  refine KS.p (.int .i64 (s y)) ?_
  refine KS.p (.pointer (some ⟨B1, 1, none⟩)) ?_
  refine KS.l 3 B1 1 (.int .i64 12) M1 0 Try.underlying3 ?_
  refine KS.p (.pointer (some ⟨B1, 2, none⟩)) ?_
  refine KS.l 4 B1 2 (.bool true) M1 0 Try.underlying4 ?_
  refine KS.c (.bool false) 47 #[.int .i64 (s y), .int .i64 12, .bool true] M1 (by have h := fits_c y 12 true w1; rw [hf] at h; exact h) fun w2 M2 => ?_
  refine KS.p (.bool false) ?_
  refine KS.k ?_
  refine KS.k ?_
  refine KS.k ?_
  refine KS.k ?_
  refine KS.k ?_
  refine KS.k ?_
  refine KS.k ?_
  refine KS.p (.bool false) ?_
  refine KS.p (.bool false) ?_
  refine KS.p (.bool false) ?_
  refine Kw.fin (Kw.then_normal (wp_ret ?_))
  exact bodyPost_ret (v := .bool false) (by kernel_rfl) (by kernel_rfl) ⟨rfl, Held.ro_drop M2 1 rfl hM⟩
set_option maxRecDepth 100000 in
theorem lay_B (x y : BitVec 64) (W : World) {S0 : List Nat} {W0 : World} (B : Nat) (hB : Kw.Mem S0 W0 W [(B, #[.int .i64 1, .int .i64 4, .int .i64 8, .int .i64 5, .int .i64 6, .int .i64 25, .int .i64 11, .int .i64 1, .int .i64 7, .int .i64 12, .int .i64 1, .int .i64 31], 89)]) : Calls Try.prog 46 #[.agg #[.slice (some ⟨B, 0, none⟩) 4 4, .int .i64 13, .bool true, .int .i64 1], .int .u64 (u x), .int .i64 (s y)] W fun e W' => e = .returned (.int .u64 (u (putI (putI (putI (putI x 8 4 (getI y 1 4)) 25 6 (getI y 5 6)) 7 1 (getI y 11 1)) 31 1 (getI y 12 1)))) ∧ Kw.Mem [] W W' [] := by
  have hM : W.heap[B]? = some (.cells #[.int .i64 1, .int .i64 4, .int .i64 8, .int .i64 5, .int .i64 6, .int .i64 25, .int .i64 11, .int .i64 1, .int .i64 7, .int .i64 12, .int .i64 1, .int .i64 31] 89 (0, 0)) := hB.get 0 rfl
  refine calls_of_wp Try.func46 rfl ?_
  have M0 : Kw.Mem [B] W W [(B, #[.int .i64 1, .int .i64 4, .int .i64 8, .int .i64 5, .int .i64 6, .int .i64 25, .int .i64 11, .int .i64 1, .int .i64 7, .int .i64 12, .int .i64 1, .int .i64 31], 89)] := Kw.Mem.begin1 hM
  refine Kw.to (b := ⟨#[.agg #[.slice (some ⟨B, 0, none⟩) 4 4, .int .i64 13, .bool true, .int .i64 1], .int .u64 (u x), .int .i64 (s y), undef, undef, undef, undef, undef, undef, undef, undef, undef, undef, undef, undef, undef, undef, undef, undef, undef, undef, undef, undef, undef, undef, undef, undef, undef, undef, undef, undef], []⟩) (by kernel_rfl) ?_
  refine wp_seq (Kw.region ?_)
  refine Kw.alloc #[.slice (some ⟨B, 0, none⟩) 4 4, .int .i64 13, .bool true, .int .i64 1] 64 M0 (by kernel_rfl) (by kernel_rfl) fun w1 B1 M1 => ?_
  refine KS.p (.int .u64 0) ?_
  refine KS.n5 ?_
  refine KS.p (.pointer (some ⟨B1, 0, none⟩)) ?_
  refine KS.l 62 B1 0 (.slice (some ⟨B, 0, none⟩) 4 4) M1 0 Try.underlying62 ?_
  refine KS.p (.int .i64 4) ?_
  refine KS.p (.int .i64 0) ?_
  refine Kw.fin (Kw.then_normal (wp_block ?_))
  refine wp_loop_rounds 5 ?_
  refine Kw.round_succ (wp_seq (Kw.region ?_))
  refine KS.p (.bool true) ?_
  refine Kw.fin (Kw.then_normal (wp_seq ?_))
  refine wp_cond_true (by kernel_rfl) ?_
  refine wp_skip (Kw.then_normal (wp_seq (wp_block (wp_seq (Kw.region ?_)))))
  refine KS.p (.pointer (some ⟨B, 0, none⟩)) ?_
  refine KS.s (Canon.ldS 89 (.pointer (some ⟨B, 0, none⟩))) (.agg #[.int .i64 1, .int .i64 4, .int .i64 8]) (Kw.ld_mid 89 0 [.int .i64 1, .int .i64 4, .int .i64 8] (M1.get 1 rfl) (by kernel_rfl) _ Try.underlying89 rfl (by kernel_rfl)) ?_
  refine Kw.alloc #[.int .i64 0, .int .i64 0, .int .i64 0] 89 M1 (by kernel_rfl) (by kernel_rfl) fun w2 B2 M2 => ?_
  refine Kw.storeAll 0 89 #[.int .i64 1, .int .i64 4, .int .i64 8] M2 rfl (by kernel_rfl) (by kernel_rfl) (Eq.trans (b := 3) (by kernel_rfl) (by kernel_rfl)) (by kernel_rfl) (by kernel_rfl) fun w3 M3 => ?_
  refine KS.n2 ?_
  refine Canon.region_canon (I := fun w => Kw.Mem [B] W w [(B2, #[.int .i64 1, .int .i64 4, .int .i64 8], 89), (B1, #[.slice (some ⟨B, 0, none⟩) 4 4, .int .i64 13, .bool true, .int .i64 1], 64), (B, #[.int .i64 1, .int .i64 4, .int .i64 8, .int .i64 5, .int .i64 6, .int .i64 25, .int .i64 11, .int .i64 1, .int .i64 7, .int .i64 12, .int .i64 1, .int .i64 31], 89)]) (by kernel_rfl) (by decide +kernel) M3.drew' ?_
  refine KS.q (.int .u64 (u x)) ?_
  refine KS.q (.pointer (some ⟨B2, 2, none⟩)) ?_
  refine KS.ql 3 B2 2 (.int .i64 8) 0 Try.underlying3 ?_
  refine KS.q (.pointer (some ⟨B2, 1, none⟩)) ?_
  refine KS.ql 3 B2 1 (.int .i64 4) 0 Try.underlying3 ?_
  refine KS.q (.int .i64 (s y)) ?_
  refine Canon.pure (.int .u64 (u y)) (by kernel_rfl) (fun w => Kw.eqv (v := .int .u64 (IntKind.u64.wrap (s y))) (by kernel_rfl) (congrArg (Value.int .u64) (wrap_s y))) ?_
  refine KS.q (.pointer (some ⟨B2, 0, none⟩)) ?_
  refine KS.ql 3 B2 0 (.int .i64 1) 0 Try.underlying3 ?_
  refine KS.q (.pointer (some ⟨B2, 1, none⟩)) ?_
  refine KS.ql 3 B2 1 (.int .i64 4) 0 Try.underlying3 ?_
  refine Canon.call (.int .u64 (u (getI y 1 4))) 36 #[.int .u64 (u y), .int .i64 1, .int .i64 4] (by kernel_rfl) (fun w => by kernel_rfl) (fun w hw => (get_c y 1 4 w).mono fun r w1 ⟨he, hb⟩ => ⟨he, hw.call hb⟩) ?_
  refine Canon.call (.int .u64 (u (putI x 8 4 (getI y 1 4)))) 48 #[.int .u64 (u x), .int .i64 8, .int .i64 4, .int .u64 (u (getI y 1 4))] (by kernel_rfl) (fun w => by kernel_rfl) (fun w hw => (put_c x 8 4 (getI y 1 4) w).mono fun r w1 ⟨he, hb⟩ => ⟨he, hw.call hb⟩) ?_
  refine KS.q (.int .u64 (u (putI x 8 4 (getI y 1 4)))) ?_
  refine Canon.fin fun w4 M4 => ?_
  refine Kw.block_normal (Kw.then_normal (Kw.region ?_))
  refine KS.p (.int .i64 1) ?_
  refine KS.p (.int .i64 1) ?_
  refine Kw.fin (Kw.then_normal (Kw.round_succ (wp_seq (Kw.region ?_))))
  refine KS.p (.bool true) ?_
  refine Kw.fin (Kw.then_normal (wp_seq ?_))
  refine wp_cond_true (by kernel_rfl) ?_
  refine wp_skip (Kw.then_normal (wp_seq (wp_block (wp_seq (Kw.region ?_)))))
  refine KS.p (.pointer (some ⟨B, 3, none⟩)) ?_
  refine KS.s (Canon.ldS 89 (.pointer (some ⟨B, 3, none⟩))) (.agg #[.int .i64 5, .int .i64 6, .int .i64 25]) (Kw.ld_mid 89 3 [.int .i64 5, .int .i64 6, .int .i64 25] (M4.get 2 rfl) (by kernel_rfl) _ Try.underlying89 rfl (by kernel_rfl)) ?_
  refine Kw.alloc #[.int .i64 0, .int .i64 0, .int .i64 0] 89 M4 (by kernel_rfl) (by kernel_rfl) fun w5 B5 M5 => ?_
  refine Kw.storeAll 0 89 #[.int .i64 5, .int .i64 6, .int .i64 25] M5 rfl (by kernel_rfl) (by kernel_rfl) (Eq.trans (b := 3) (by kernel_rfl) (by kernel_rfl)) (by kernel_rfl) (by kernel_rfl) fun w6 M6 => ?_
  refine KS.n2 ?_
  refine Canon.region_canon (I := fun w => Kw.Mem [B] W w [(B5, #[.int .i64 5, .int .i64 6, .int .i64 25], 89), (B2, #[.int .i64 1, .int .i64 4, .int .i64 8], 89), (B1, #[.slice (some ⟨B, 0, none⟩) 4 4, .int .i64 13, .bool true, .int .i64 1], 64), (B, #[.int .i64 1, .int .i64 4, .int .i64 8, .int .i64 5, .int .i64 6, .int .i64 25, .int .i64 11, .int .i64 1, .int .i64 7, .int .i64 12, .int .i64 1, .int .i64 31], 89)]) (by kernel_rfl) (by decide +kernel) M6.drew' ?_
  refine KS.q (.int .u64 (u (putI x 8 4 (getI y 1 4)))) ?_
  refine KS.q (.pointer (some ⟨B5, 2, none⟩)) ?_
  refine KS.ql 3 B5 2 (.int .i64 25) 0 Try.underlying3 ?_
  refine KS.q (.pointer (some ⟨B5, 1, none⟩)) ?_
  refine KS.ql 3 B5 1 (.int .i64 6) 0 Try.underlying3 ?_
  refine KS.q (.int .i64 (s y)) ?_
  refine Canon.pure (.int .u64 (u y)) (by kernel_rfl) (fun w => Kw.eqv (v := .int .u64 (IntKind.u64.wrap (s y))) (by kernel_rfl) (congrArg (Value.int .u64) (wrap_s y))) ?_
  refine KS.q (.pointer (some ⟨B5, 0, none⟩)) ?_
  refine KS.ql 3 B5 0 (.int .i64 5) 0 Try.underlying3 ?_
  refine KS.q (.pointer (some ⟨B5, 1, none⟩)) ?_
  refine KS.ql 3 B5 1 (.int .i64 6) 0 Try.underlying3 ?_
  refine Canon.call (.int .u64 (u (getI y 5 6))) 36 #[.int .u64 (u y), .int .i64 5, .int .i64 6] (by kernel_rfl) (fun w => by kernel_rfl) (fun w hw => (get_c y 5 6 w).mono fun r w1 ⟨he, hb⟩ => ⟨he, hw.call hb⟩) ?_
  refine Canon.call (.int .u64 (u (putI (putI x 8 4 (getI y 1 4)) 25 6 (getI y 5 6)))) 48 #[.int .u64 (u (putI x 8 4 (getI y 1 4))), .int .i64 25, .int .i64 6, .int .u64 (u (getI y 5 6))] (by kernel_rfl) (fun w => by kernel_rfl) (fun w hw => (put_c (putI x 8 4 (getI y 1 4)) 25 6 (getI y 5 6) w).mono fun r w1 ⟨he, hb⟩ => ⟨he, hw.call hb⟩) ?_
  refine KS.q (.int .u64 (u (putI (putI x 8 4 (getI y 1 4)) 25 6 (getI y 5 6)))) ?_
  refine Canon.fin fun w7 M7 => ?_
  refine Kw.block_normal (Kw.then_normal ?_)
  refine Kw.to (b := ⟨#[.agg #[.slice (some ⟨B, 0, none⟩) 4 4, .int .i64 13, .bool true, .int .i64 1], .int .u64 (u (putI (putI x 8 4 (getI y 1 4)) 25 6 (getI y 5 6))), .int .i64 (s y), .pointer (some ⟨B1, 0, none⟩), undef, undef, .int .u64 0, undef, .pointer (some ⟨B5, 0, none⟩), .pointer (some ⟨B1, 0, none⟩), .slice (some ⟨B, 0, none⟩) 4 4, .int .i64 4, .int .i64 1, .bool true, .pointer (some ⟨B, 3, none⟩), .agg #[.int .i64 5, .int .i64 6, .int .i64 25], .int .u64 (u (putI x 8 4 (getI y 1 4))), .pointer (some ⟨B5, 2, none⟩), .int .i64 25, .pointer (some ⟨B5, 1, none⟩), .int .i64 6, .int .i64 (s y), .int .u64 (u y), .pointer (some ⟨B5, 0, none⟩), .int .i64 5, .pointer (some ⟨B5, 1, none⟩), .int .i64 6, .int .u64 (u (getI y 5 6)), .int .u64 (u (putI (putI x 8 4 (getI y 1 4)) 25 6 (getI y 5 6))), .int .i64 1, undef], []⟩) (by kernel_rfl) ?_
  refine Kw.region ?_
  refine KS.p (.int .i64 2) ?_
  refine KS.p (.int .i64 2) ?_
  refine Kw.fin (Kw.then_normal (Kw.round_succ (wp_seq (Kw.region ?_))))
  refine KS.p (.bool true) ?_
  refine Kw.fin (Kw.then_normal (wp_seq ?_))
  refine wp_cond_true (by kernel_rfl) ?_
  refine wp_skip (Kw.then_normal (wp_seq (wp_block (wp_seq (Kw.region ?_)))))
  refine KS.p (.pointer (some ⟨B, 6, none⟩)) ?_
  refine KS.s (Canon.ldS 89 (.pointer (some ⟨B, 6, none⟩))) (.agg #[.int .i64 11, .int .i64 1, .int .i64 7]) (Kw.ld_mid 89 6 [.int .i64 11, .int .i64 1, .int .i64 7] (M7.get 3 rfl) (by kernel_rfl) _ Try.underlying89 rfl (by kernel_rfl)) ?_
  refine Kw.alloc #[.int .i64 0, .int .i64 0, .int .i64 0] 89 M7 (by kernel_rfl) (by kernel_rfl) fun w8 B8 M8 => ?_
  refine Kw.storeAll 0 89 #[.int .i64 11, .int .i64 1, .int .i64 7] M8 rfl (by kernel_rfl) (by kernel_rfl) (Eq.trans (b := 3) (by kernel_rfl) (by kernel_rfl)) (by kernel_rfl) (by kernel_rfl) fun w9 M9 => ?_
  refine KS.n2 ?_
  refine Canon.region_canon (I := fun w => Kw.Mem [B] W w [(B8, #[.int .i64 11, .int .i64 1, .int .i64 7], 89), (B5, #[.int .i64 5, .int .i64 6, .int .i64 25], 89), (B2, #[.int .i64 1, .int .i64 4, .int .i64 8], 89), (B1, #[.slice (some ⟨B, 0, none⟩) 4 4, .int .i64 13, .bool true, .int .i64 1], 64), (B, #[.int .i64 1, .int .i64 4, .int .i64 8, .int .i64 5, .int .i64 6, .int .i64 25, .int .i64 11, .int .i64 1, .int .i64 7, .int .i64 12, .int .i64 1, .int .i64 31], 89)]) (by kernel_rfl) (by decide +kernel) M9.drew' ?_
  refine KS.q (.int .u64 (u (putI (putI x 8 4 (getI y 1 4)) 25 6 (getI y 5 6)))) ?_
  refine KS.q (.pointer (some ⟨B8, 2, none⟩)) ?_
  refine KS.ql 3 B8 2 (.int .i64 7) 0 Try.underlying3 ?_
  refine KS.q (.pointer (some ⟨B8, 1, none⟩)) ?_
  refine KS.ql 3 B8 1 (.int .i64 1) 0 Try.underlying3 ?_
  refine KS.q (.int .i64 (s y)) ?_
  refine Canon.pure (.int .u64 (u y)) (by kernel_rfl) (fun w => Kw.eqv (v := .int .u64 (IntKind.u64.wrap (s y))) (by kernel_rfl) (congrArg (Value.int .u64) (wrap_s y))) ?_
  refine KS.q (.pointer (some ⟨B8, 0, none⟩)) ?_
  refine KS.ql 3 B8 0 (.int .i64 11) 0 Try.underlying3 ?_
  refine KS.q (.pointer (some ⟨B8, 1, none⟩)) ?_
  refine KS.ql 3 B8 1 (.int .i64 1) 0 Try.underlying3 ?_
  refine Canon.call (.int .u64 (u (getI y 11 1))) 36 #[.int .u64 (u y), .int .i64 11, .int .i64 1] (by kernel_rfl) (fun w => by kernel_rfl) (fun w hw => (get_c y 11 1 w).mono fun r w1 ⟨he, hb⟩ => ⟨he, hw.call hb⟩) ?_
  refine Canon.call (.int .u64 (u (putI (putI (putI x 8 4 (getI y 1 4)) 25 6 (getI y 5 6)) 7 1 (getI y 11 1)))) 48 #[.int .u64 (u (putI (putI x 8 4 (getI y 1 4)) 25 6 (getI y 5 6))), .int .i64 7, .int .i64 1, .int .u64 (u (getI y 11 1))] (by kernel_rfl) (fun w => by kernel_rfl) (fun w hw => (put_c (putI (putI x 8 4 (getI y 1 4)) 25 6 (getI y 5 6)) 7 1 (getI y 11 1) w).mono fun r w1 ⟨he, hb⟩ => ⟨he, hw.call hb⟩) ?_
  refine KS.q (.int .u64 (u (putI (putI (putI x 8 4 (getI y 1 4)) 25 6 (getI y 5 6)) 7 1 (getI y 11 1)))) ?_
  refine Canon.fin fun w10 M10 => ?_
  refine Kw.block_normal (Kw.then_normal (Kw.region ?_))
  refine KS.p (.int .i64 3) ?_
  refine KS.p (.int .i64 3) ?_
  refine Kw.fin (Kw.then_normal (Kw.round_succ (wp_seq (Kw.region ?_))))
  refine KS.p (.bool true) ?_
  refine Kw.fin (Kw.then_normal (wp_seq ?_))
  refine wp_cond_true (by kernel_rfl) ?_
  refine wp_skip (Kw.then_normal (wp_seq (wp_block (wp_seq (Kw.region ?_)))))
  refine KS.p (.pointer (some ⟨B, 9, none⟩)) ?_
  refine KS.s (Canon.ldS 89 (.pointer (some ⟨B, 9, none⟩))) (.agg #[.int .i64 12, .int .i64 1, .int .i64 31]) (Kw.ld_mid 89 9 [.int .i64 12, .int .i64 1, .int .i64 31] (M10.get 4 rfl) (by kernel_rfl) _ Try.underlying89 rfl (by kernel_rfl)) ?_
  refine Kw.alloc #[.int .i64 0, .int .i64 0, .int .i64 0] 89 M10 (by kernel_rfl) (by kernel_rfl) fun w11 B11 M11 => ?_
  refine Kw.storeAll 0 89 #[.int .i64 12, .int .i64 1, .int .i64 31] M11 rfl (by kernel_rfl) (by kernel_rfl) (Eq.trans (b := 3) (by kernel_rfl) (by kernel_rfl)) (by kernel_rfl) (by kernel_rfl) fun w12 M12 => ?_
  refine KS.n2 ?_
  refine Canon.region_canon (I := fun w => Kw.Mem [B] W w [(B11, #[.int .i64 12, .int .i64 1, .int .i64 31], 89), (B8, #[.int .i64 11, .int .i64 1, .int .i64 7], 89), (B5, #[.int .i64 5, .int .i64 6, .int .i64 25], 89), (B2, #[.int .i64 1, .int .i64 4, .int .i64 8], 89), (B1, #[.slice (some ⟨B, 0, none⟩) 4 4, .int .i64 13, .bool true, .int .i64 1], 64), (B, #[.int .i64 1, .int .i64 4, .int .i64 8, .int .i64 5, .int .i64 6, .int .i64 25, .int .i64 11, .int .i64 1, .int .i64 7, .int .i64 12, .int .i64 1, .int .i64 31], 89)]) (by kernel_rfl) (by decide +kernel) M12.drew' ?_
  refine KS.q (.int .u64 (u (putI (putI (putI x 8 4 (getI y 1 4)) 25 6 (getI y 5 6)) 7 1 (getI y 11 1)))) ?_
  refine KS.q (.pointer (some ⟨B11, 2, none⟩)) ?_
  refine KS.ql 3 B11 2 (.int .i64 31) 0 Try.underlying3 ?_
  refine KS.q (.pointer (some ⟨B11, 1, none⟩)) ?_
  refine KS.ql 3 B11 1 (.int .i64 1) 0 Try.underlying3 ?_
  refine KS.q (.int .i64 (s y)) ?_
  refine Canon.pure (.int .u64 (u y)) (by kernel_rfl) (fun w => Kw.eqv (v := .int .u64 (IntKind.u64.wrap (s y))) (by kernel_rfl) (congrArg (Value.int .u64) (wrap_s y))) ?_
  refine KS.q (.pointer (some ⟨B11, 0, none⟩)) ?_
  refine KS.ql 3 B11 0 (.int .i64 12) 0 Try.underlying3 ?_
  refine KS.q (.pointer (some ⟨B11, 1, none⟩)) ?_
  refine KS.ql 3 B11 1 (.int .i64 1) 0 Try.underlying3 ?_
  refine Canon.call (.int .u64 (u (getI y 12 1))) 36 #[.int .u64 (u y), .int .i64 12, .int .i64 1] (by kernel_rfl) (fun w => by kernel_rfl) (fun w hw => (get_c y 12 1 w).mono fun r w1 ⟨he, hb⟩ => ⟨he, hw.call hb⟩) ?_
  refine Canon.call (.int .u64 (u (putI (putI (putI (putI x 8 4 (getI y 1 4)) 25 6 (getI y 5 6)) 7 1 (getI y 11 1)) 31 1 (getI y 12 1)))) 48 #[.int .u64 (u (putI (putI (putI x 8 4 (getI y 1 4)) 25 6 (getI y 5 6)) 7 1 (getI y 11 1))), .int .i64 31, .int .i64 1, .int .u64 (u (getI y 12 1))] (by kernel_rfl) (fun w => by kernel_rfl) (fun w hw => (put_c (putI (putI (putI x 8 4 (getI y 1 4)) 25 6 (getI y 5 6)) 7 1 (getI y 11 1)) 31 1 (getI y 12 1) w).mono fun r w1 ⟨he, hb⟩ => ⟨he, hw.call hb⟩) ?_
  refine KS.q (.int .u64 (u (putI (putI (putI (putI x 8 4 (getI y 1 4)) 25 6 (getI y 5 6)) 7 1 (getI y 11 1)) 31 1 (getI y 12 1)))) ?_
  refine Canon.fin fun w13 M13 => ?_
  refine Kw.block_normal (Kw.then_normal ?_)
  refine Kw.to (b := ⟨#[.agg #[.slice (some ⟨B, 0, none⟩) 4 4, .int .i64 13, .bool true, .int .i64 1], .int .u64 (u (putI (putI (putI (putI x 8 4 (getI y 1 4)) 25 6 (getI y 5 6)) 7 1 (getI y 11 1)) 31 1 (getI y 12 1))), .int .i64 (s y), .pointer (some ⟨B1, 0, none⟩), undef, undef, .int .u64 0, undef, .pointer (some ⟨B11, 0, none⟩), .pointer (some ⟨B1, 0, none⟩), .slice (some ⟨B, 0, none⟩) 4 4, .int .i64 4, .int .i64 3, .bool true, .pointer (some ⟨B, 9, none⟩), .agg #[.int .i64 12, .int .i64 1, .int .i64 31], .int .u64 (u (putI (putI (putI x 8 4 (getI y 1 4)) 25 6 (getI y 5 6)) 7 1 (getI y 11 1))), .pointer (some ⟨B11, 2, none⟩), .int .i64 31, .pointer (some ⟨B11, 1, none⟩), .int .i64 1, .int .i64 (s y), .int .u64 (u y), .pointer (some ⟨B11, 0, none⟩), .int .i64 12, .pointer (some ⟨B11, 1, none⟩), .int .i64 1, .int .u64 (u (getI y 12 1)), .int .u64 (u (putI (putI (putI (putI x 8 4 (getI y 1 4)) 25 6 (getI y 5 6)) 7 1 (getI y 11 1)) 31 1 (getI y 12 1))), .int .i64 3, undef], []⟩) (by kernel_rfl) ?_
  refine Kw.region ?_
  refine KS.p (.int .i64 4) ?_
  refine KS.p (.int .i64 4) ?_
  refine Kw.fin (Kw.then_normal (Kw.round_succ (wp_seq (Kw.region ?_))))
  refine KS.p (.bool false) ?_
  refine Kw.fin (Kw.then_normal (wp_seq ?_))
  refine wp_cond_false (by kernel_rfl) ?_
  refine wp_exit (Kw.then_exit (Kw.then_exit (Kw.block_hit (Kw.then_normal (wp_seq (Kw.region ?_))))))
  refine KS.p (.int .u64 (u (putI (putI (putI (putI x 8 4 (getI y 1 4)) 25 6 (getI y 5 6)) 7 1 (getI y 11 1)) 31 1 (getI y 12 1)))) ?_
  refine KS.p (.int .u64 (u (putI (putI (putI (putI x 8 4 (getI y 1 4)) 25 6 (getI y 5 6)) 7 1 (getI y 11 1)) 31 1 (getI y 12 1)))) ?_
  refine Kw.fin (Kw.then_normal (wp_ret ?_))
  exact bodyPost_ret (v := .int .u64 (u (putI (putI (putI (putI x 8 4 (getI y 1 4)) 25 6 (getI y 5 6)) 7 1 (getI y 11 1)) 31 1 (getI y 12 1)))) (by kernel_rfl) (by kernel_rfl) ⟨rfl, Held.ro_drop M13 5 rfl hM⟩
set_option maxRecDepth 100000 in
theorem fits_B1 (y : BitVec 64) (W : World) {S0 : List Nat} {W0 : World} (B : Nat) (hB : Kw.Mem S0 W0 W [(B, #[.int .i64 1, .int .i64 4, .int .i64 8, .int .i64 5, .int .i64 6, .int .i64 25, .int .i64 11, .int .i64 1, .int .i64 7, .int .i64 12, .int .i64 1, .int .i64 31], 89)]) (hf : fitsI y 13 true = true) : Calls Try.prog 43 #[.agg #[.slice (some ⟨B, 0, none⟩) 4 4, .int .i64 13, .bool true, .int .i64 1], .int .i64 (s y)] W fun e W' => e = .returned (.bool ((u (y &&& (maskI 1))) == (0 : Int))) ∧ Kw.Mem [] W W' [] := by
  have hM : W.heap[B]? = some (.cells #[.int .i64 1, .int .i64 4, .int .i64 8, .int .i64 5, .int .i64 6, .int .i64 25, .int .i64 11, .int .i64 1, .int .i64 7, .int .i64 12, .int .i64 1, .int .i64 31] 89 (0, 0)) := hB.get 0 rfl
  refine calls_of_wp Try.func43 rfl ?_
  have M0 : Kw.Mem [B] W W [(B, #[.int .i64 1, .int .i64 4, .int .i64 8, .int .i64 5, .int .i64 6, .int .i64 25, .int .i64 11, .int .i64 1, .int .i64 7, .int .i64 12, .int .i64 1, .int .i64 31], 89)] := Kw.Mem.begin1 hM
  refine Kw.to (b := ⟨#[.agg #[.slice (some ⟨B, 0, none⟩) 4 4, .int .i64 13, .bool true, .int .i64 1], .int .i64 (s y), undef, undef, undef, undef, undef, undef, undef, undef, undef, undef, undef, undef, undef, undef, undef, undef, undef, undef, undef, undef, undef, undef, undef, undef], []⟩) (by kernel_rfl) ?_
  refine wp_seq (Kw.region ?_)
  refine Kw.alloc #[.slice (some ⟨B, 0, none⟩) 4 4, .int .i64 13, .bool true, .int .i64 1] 64 M0 (by kernel_rfl) (by kernel_rfl) fun w1 B1 M1 => ?_
  refine KS.p (.bool false) ?_
  refine KS.n4 ?_
  refine KS.p (.pointer (some ⟨B1, 0, none⟩)) ?_
  refine KS.l 62 B1 0 (.slice (some ⟨B, 0, none⟩) 4 4) M1 0 Try.underlying62 ?_
  refine KS.p (.int .i64 4) ?_
  refine KS.p (.bool false) ?_
  refine KS.p (.bool false) ?_
  refine KS.p (.int .i64 (s y)) ?_
  refine KS.p (.pointer (some ⟨B1, 1, none⟩)) ?_
  refine KS.l 3 B1 1 (.int .i64 13) M1 0 Try.underlying3 ?_
  refine KS.p (.pointer (some ⟨B1, 2, none⟩)) ?_
  refine KS.l 4 B1 2 (.bool true) M1 0 Try.underlying4 ?_
  refine KS.c (.bool true) 47 #[.int .i64 (s y), .int .i64 13, .bool true] M1 (by have h := fits_c y 13 true w1; rw [hf] at h; exact h) fun w2 M2 => ?_
  refine KS.p (.bool true) ?_
  refine KS.p (.int .i64 (s y)) ?_
  refine Kw.pure (.int .u64 (u y)) (by kernel_rfl) (Kw.eqv (v := .int .u64 (IntKind.u64.wrap (s y))) (by kernel_rfl) (congrArg (Value.int .u64) (wrap_s y))) ?_
  refine KS.p (.pointer (some ⟨B1, 3, none⟩)) ?_
  refine KS.l 3 B1 3 (.int .i64 1) M2 0 Try.underlying3 ?_
  refine KS.c (.int .u64 (u (maskI 1))) 58 #[.int .i64 1] M2 (mask_c 1 w2) fun w3 M3 => ?_
  refine Kw.pure (.int .u64 (u (y &&& (maskI 1)))) (by kernel_rfl) (Kw.eqv (v := .int .u64 (Go.bits .and .u64 ((u y)) ((u (maskI 1))))) (by kernel_rfl) (congrArg (Value.int .u64) (bits_and y (maskI 1)))) ?_
  refine KS.p (.bool ((u (y &&& (maskI 1))) == (0 : Int))) ?_
  refine KS.p (.bool ((u (y &&& (maskI 1))) == (0 : Int))) ?_
  refine KS.p (.bool ((u (y &&& (maskI 1))) == (0 : Int))) ?_
  refine KS.p (.bool ((u (y &&& (maskI 1))) == (0 : Int))) ?_
  refine Kw.fin (Kw.then_normal (wp_ret ?_))
  exact bodyPost_ret (v := .bool ((u (y &&& (maskI 1))) == (0 : Int))) (by kernel_rfl) (by kernel_rfl) ⟨rfl, Held.ro_drop M3 1 rfl hM⟩
set_option maxRecDepth 100000 in
theorem fits_B0 (y : BitVec 64) (W : World) {S0 : List Nat} {W0 : World} (B : Nat) (hB : Kw.Mem S0 W0 W [(B, #[.int .i64 1, .int .i64 4, .int .i64 8, .int .i64 5, .int .i64 6, .int .i64 25, .int .i64 11, .int .i64 1, .int .i64 7, .int .i64 12, .int .i64 1, .int .i64 31], 89)]) (hf : fitsI y 13 true = false) : Calls Try.prog 43 #[.agg #[.slice (some ⟨B, 0, none⟩) 4 4, .int .i64 13, .bool true, .int .i64 1], .int .i64 (s y)] W fun e W' => e = .returned (.bool false) ∧ Kw.Mem [] W W' [] := by
  have hM : W.heap[B]? = some (.cells #[.int .i64 1, .int .i64 4, .int .i64 8, .int .i64 5, .int .i64 6, .int .i64 25, .int .i64 11, .int .i64 1, .int .i64 7, .int .i64 12, .int .i64 1, .int .i64 31] 89 (0, 0)) := hB.get 0 rfl
  refine calls_of_wp Try.func43 rfl ?_
  have M0 : Kw.Mem [B] W W [(B, #[.int .i64 1, .int .i64 4, .int .i64 8, .int .i64 5, .int .i64 6, .int .i64 25, .int .i64 11, .int .i64 1, .int .i64 7, .int .i64 12, .int .i64 1, .int .i64 31], 89)] := Kw.Mem.begin1 hM
  refine Kw.to (b := ⟨#[.agg #[.slice (some ⟨B, 0, none⟩) 4 4, .int .i64 13, .bool true, .int .i64 1], .int .i64 (s y), undef, undef, undef, undef, undef, undef, undef, undef, undef, undef, undef, undef, undef, undef, undef, undef, undef, undef, undef, undef, undef, undef, undef, undef], []⟩) (by kernel_rfl) ?_
  refine wp_seq (Kw.region ?_)
  refine Kw.alloc #[.slice (some ⟨B, 0, none⟩) 4 4, .int .i64 13, .bool true, .int .i64 1] 64 M0 (by kernel_rfl) (by kernel_rfl) fun w1 B1 M1 => ?_
  refine KS.p (.bool false) ?_
  refine KS.n4 ?_
  refine KS.p (.pointer (some ⟨B1, 0, none⟩)) ?_
  refine KS.l 62 B1 0 (.slice (some ⟨B, 0, none⟩) 4 4) M1 0 Try.underlying62 ?_
  refine KS.p (.int .i64 4) ?_
  refine KS.p (.bool false) ?_
  refine KS.p (.bool false) ?_
  refine KS.p (.int .i64 (s y)) ?_
  refine KS.p (.pointer (some ⟨B1, 1, none⟩)) ?_
  refine KS.l 3 B1 1 (.int .i64 13) M1 0 Try.underlying3 ?_
  refine KS.p (.pointer (some ⟨B1, 2, none⟩)) ?_
  refine KS.l 4 B1 2 (.bool true) M1 0 Try.underlying4 ?_
  refine KS.c (.bool false) 47 #[.int .i64 (s y), .int .i64 13, .bool true] M1 (by have h := fits_c y 13 true w1; rw [hf] at h; exact h) fun w2 M2 => ?_
  refine KS.p (.bool false) ?_
  refine KS.k ?_
  refine KS.k ?_
  refine KS.k ?_
  refine KS.k ?_
  refine KS.k ?_
  refine KS.k ?_
  refine KS.k ?_
  refine KS.p (.bool false) ?_
  refine KS.p (.bool false) ?_
  refine KS.p (.bool false) ?_
  refine Kw.fin (Kw.then_normal (wp_ret ?_))
  exact bodyPost_ret (v := .bool false) (by kernel_rfl) (by kernel_rfl) ⟨rfl, Held.ro_drop M2 1 rfl hM⟩
set_option maxRecDepth 100000 in
theorem lay_U (x y : BitVec 64) (W : World) {S0 : List Nat} {W0 : World} (B : Nat) (hB : Kw.Mem S0 W0 W [(B, #[.int .i64 12, .int .i64 20, .int .i64 12], 89)]) : Calls Try.prog 46 #[.agg #[.slice (some ⟨B, 0, none⟩) 1 1, .int .i64 32, .bool true, .int .i64 12], .int .u64 (u x), .int .i64 (s y)] W fun e W' => e = .returned (.int .u64 (u (putI x 12 20 (getI y 12 20)))) ∧ Kw.Mem [] W W' [] := by
  have hM : W.heap[B]? = some (.cells #[.int .i64 12, .int .i64 20, .int .i64 12] 89 (0, 0)) := hB.get 0 rfl
  refine calls_of_wp Try.func46 rfl ?_
  have M0 : Kw.Mem [B] W W [(B, #[.int .i64 12, .int .i64 20, .int .i64 12], 89)] := Kw.Mem.begin1 hM
  refine Kw.to (b := ⟨#[.agg #[.slice (some ⟨B, 0, none⟩) 1 1, .int .i64 32, .bool true, .int .i64 12], .int .u64 (u x), .int .i64 (s y), undef, undef, undef, undef, undef, undef, undef, undef, undef, undef, undef, undef, undef, undef, undef, undef, undef, undef, undef, undef, undef, undef, undef, undef, undef, undef, undef, undef], []⟩) (by kernel_rfl) ?_
  refine wp_seq (Kw.region ?_)
  refine Kw.alloc #[.slice (some ⟨B, 0, none⟩) 1 1, .int .i64 32, .bool true, .int .i64 12] 64 M0 (by kernel_rfl) (by kernel_rfl) fun w1 B1 M1 => ?_
  refine KS.p (.int .u64 0) ?_
  refine KS.n5 ?_
  refine KS.p (.pointer (some ⟨B1, 0, none⟩)) ?_
  refine KS.l 62 B1 0 (.slice (some ⟨B, 0, none⟩) 1 1) M1 0 Try.underlying62 ?_
  refine KS.p (.int .i64 1) ?_
  refine KS.p (.int .i64 0) ?_
  refine Kw.fin (Kw.then_normal (wp_block ?_))
  refine wp_loop_rounds 2 ?_
  refine Kw.round_succ (wp_seq (Kw.region ?_))
  refine KS.p (.bool true) ?_
  refine Kw.fin (Kw.then_normal (wp_seq ?_))
  refine wp_cond_true (by kernel_rfl) ?_
  refine wp_skip (Kw.then_normal (wp_seq (wp_block (wp_seq (Kw.region ?_)))))
  refine KS.p (.pointer (some ⟨B, 0, none⟩)) ?_
  refine KS.la 89 B _ M1 1 Try.underlying89 ?_
  refine Kw.alloc #[.int .i64 0, .int .i64 0, .int .i64 0] 89 M1 (by kernel_rfl) (by kernel_rfl) fun w2 B2 M2 => ?_
  refine Kw.storeAll 0 89 #[.int .i64 12, .int .i64 20, .int .i64 12] M2 rfl (by kernel_rfl) (by kernel_rfl) (Eq.trans (b := 3) (by kernel_rfl) (by kernel_rfl)) (by kernel_rfl) (by kernel_rfl) fun w3 M3 => ?_
  refine KS.n2 ?_
  refine Canon.region_canon (I := fun w => Kw.Mem [B] W w [(B2, #[.int .i64 12, .int .i64 20, .int .i64 12], 89), (B1, #[.slice (some ⟨B, 0, none⟩) 1 1, .int .i64 32, .bool true, .int .i64 12], 64), (B, #[.int .i64 12, .int .i64 20, .int .i64 12], 89)]) (by kernel_rfl) (by decide +kernel) M3.drew' ?_
  refine KS.q (.int .u64 (u x)) ?_
  refine KS.q (.pointer (some ⟨B2, 2, none⟩)) ?_
  refine KS.ql 3 B2 2 (.int .i64 12) 0 Try.underlying3 ?_
  refine KS.q (.pointer (some ⟨B2, 1, none⟩)) ?_
  refine KS.ql 3 B2 1 (.int .i64 20) 0 Try.underlying3 ?_
  refine KS.q (.int .i64 (s y)) ?_
  refine Canon.pure (.int .u64 (u y)) (by kernel_rfl) (fun w => Kw.eqv (v := .int .u64 (IntKind.u64.wrap (s y))) (by kernel_rfl) (congrArg (Value.int .u64) (wrap_s y))) ?_
  refine KS.q (.pointer (some ⟨B2, 0, none⟩)) ?_
  refine KS.ql 3 B2 0 (.int .i64 12) 0 Try.underlying3 ?_
  refine KS.q (.pointer (some ⟨B2, 1, none⟩)) ?_
  refine KS.ql 3 B2 1 (.int .i64 20) 0 Try.underlying3 ?_
  refine Canon.call (.int .u64 (u (getI y 12 20))) 36 #[.int .u64 (u y), .int .i64 12, .int .i64 20] (by kernel_rfl) (fun w => by kernel_rfl) (fun w hw => (get_c y 12 20 w).mono fun r w1 ⟨he, hb⟩ => ⟨he, hw.call hb⟩) ?_
  refine Canon.call (.int .u64 (u (putI x 12 20 (getI y 12 20)))) 48 #[.int .u64 (u x), .int .i64 12, .int .i64 20, .int .u64 (u (getI y 12 20))] (by kernel_rfl) (fun w => by kernel_rfl) (fun w hw => (put_c x 12 20 (getI y 12 20) w).mono fun r w1 ⟨he, hb⟩ => ⟨he, hw.call hb⟩) ?_
  refine KS.q (.int .u64 (u (putI x 12 20 (getI y 12 20)))) ?_
  refine Canon.fin fun w4 M4 => ?_
  refine Kw.block_normal (Kw.then_normal (Kw.region ?_))
  refine KS.p (.int .i64 1) ?_
  refine KS.p (.int .i64 1) ?_
  refine Kw.fin (Kw.then_normal (Kw.round_succ (wp_seq (Kw.region ?_))))
  refine KS.p (.bool false) ?_
  refine Kw.fin (Kw.then_normal (wp_seq ?_))
  refine wp_cond_false (by kernel_rfl) ?_
  refine wp_exit (Kw.then_exit (Kw.then_exit (Kw.block_hit (Kw.then_normal (wp_seq (Kw.region ?_))))))
  refine KS.p (.int .u64 (u (putI x 12 20 (getI y 12 20)))) ?_
  refine KS.p (.int .u64 (u (putI x 12 20 (getI y 12 20)))) ?_
  refine Kw.fin (Kw.then_normal (wp_ret ?_))
  exact bodyPost_ret (v := .int .u64 (u (putI x 12 20 (getI y 12 20)))) (by kernel_rfl) (by kernel_rfl) ⟨rfl, Held.ro_drop M4 2 rfl hM⟩
set_option maxRecDepth 100000 in
theorem fits_U1 (y : BitVec 64) (W : World) {S0 : List Nat} {W0 : World} (B : Nat) (hB : Kw.Mem S0 W0 W [(B, #[.int .i64 12, .int .i64 20, .int .i64 12], 89)]) (hf : fitsI y 32 true = true) : Calls Try.prog 43 #[.agg #[.slice (some ⟨B, 0, none⟩) 1 1, .int .i64 32, .bool true, .int .i64 12], .int .i64 (s y)] W fun e W' => e = .returned (.bool ((u (y &&& (maskI 12))) == (0 : Int))) ∧ Kw.Mem [] W W' [] := by
  have hM : W.heap[B]? = some (.cells #[.int .i64 12, .int .i64 20, .int .i64 12] 89 (0, 0)) := hB.get 0 rfl
  refine calls_of_wp Try.func43 rfl ?_
  have M0 : Kw.Mem [B] W W [(B, #[.int .i64 12, .int .i64 20, .int .i64 12], 89)] := Kw.Mem.begin1 hM
  refine Kw.to (b := ⟨#[.agg #[.slice (some ⟨B, 0, none⟩) 1 1, .int .i64 32, .bool true, .int .i64 12], .int .i64 (s y), undef, undef, undef, undef, undef, undef, undef, undef, undef, undef, undef, undef, undef, undef, undef, undef, undef, undef, undef, undef, undef, undef, undef, undef], []⟩) (by kernel_rfl) ?_
  refine wp_seq (Kw.region ?_)
  refine Kw.alloc #[.slice (some ⟨B, 0, none⟩) 1 1, .int .i64 32, .bool true, .int .i64 12] 64 M0 (by kernel_rfl) (by kernel_rfl) fun w1 B1 M1 => ?_
  refine KS.p (.bool false) ?_
  refine KS.n4 ?_
  refine KS.p (.pointer (some ⟨B1, 0, none⟩)) ?_
  refine KS.l 62 B1 0 (.slice (some ⟨B, 0, none⟩) 1 1) M1 0 Try.underlying62 ?_
  refine KS.p (.int .i64 1) ?_
  refine KS.p (.bool false) ?_
  refine KS.p (.bool false) ?_
  refine KS.p (.int .i64 (s y)) ?_
  refine KS.p (.pointer (some ⟨B1, 1, none⟩)) ?_
  refine KS.l 3 B1 1 (.int .i64 32) M1 0 Try.underlying3 ?_
  refine KS.p (.pointer (some ⟨B1, 2, none⟩)) ?_
  refine KS.l 4 B1 2 (.bool true) M1 0 Try.underlying4 ?_
  refine KS.c (.bool true) 47 #[.int .i64 (s y), .int .i64 32, .bool true] M1 (by have h := fits_c y 32 true w1; rw [hf] at h; exact h) fun w2 M2 => ?_
  refine KS.p (.bool true) ?_
  refine KS.p (.int .i64 (s y)) ?_
  refine Kw.pure (.int .u64 (u y)) (by kernel_rfl) (Kw.eqv (v := .int .u64 (IntKind.u64.wrap (s y))) (by kernel_rfl) (congrArg (Value.int .u64) (wrap_s y))) ?_
  refine KS.p (.pointer (some ⟨B1, 3, none⟩)) ?_
  refine KS.l 3 B1 3 (.int .i64 12) M2 0 Try.underlying3 ?_
  refine KS.c (.int .u64 (u (maskI 12))) 58 #[.int .i64 12] M2 (mask_c 12 w2) fun w3 M3 => ?_
  refine Kw.pure (.int .u64 (u (y &&& (maskI 12)))) (by kernel_rfl) (Kw.eqv (v := .int .u64 (Go.bits .and .u64 ((u y)) ((u (maskI 12))))) (by kernel_rfl) (congrArg (Value.int .u64) (bits_and y (maskI 12)))) ?_
  refine KS.p (.bool ((u (y &&& (maskI 12))) == (0 : Int))) ?_
  refine KS.p (.bool ((u (y &&& (maskI 12))) == (0 : Int))) ?_
  refine KS.p (.bool ((u (y &&& (maskI 12))) == (0 : Int))) ?_
  refine KS.p (.bool ((u (y &&& (maskI 12))) == (0 : Int))) ?_
  refine Kw.fin (Kw.then_normal (wp_ret ?_))
  exact bodyPost_ret (v := .bool ((u (y &&& (maskI 12))) == (0 : Int))) (by kernel_rfl) (by kernel_rfl) ⟨rfl, Held.ro_drop M3 1 rfl hM⟩
set_option maxRecDepth 100000 in
theorem fits_U0 (y : BitVec 64) (W : World) {S0 : List Nat} {W0 : World} (B : Nat) (hB : Kw.Mem S0 W0 W [(B, #[.int .i64 12, .int .i64 20, .int .i64 12], 89)]) (hf : fitsI y 32 true = false) : Calls Try.prog 43 #[.agg #[.slice (some ⟨B, 0, none⟩) 1 1, .int .i64 32, .bool true, .int .i64 12], .int .i64 (s y)] W fun e W' => e = .returned (.bool false) ∧ Kw.Mem [] W W' [] := by
  have hM : W.heap[B]? = some (.cells #[.int .i64 12, .int .i64 20, .int .i64 12] 89 (0, 0)) := hB.get 0 rfl
  refine calls_of_wp Try.func43 rfl ?_
  have M0 : Kw.Mem [B] W W [(B, #[.int .i64 12, .int .i64 20, .int .i64 12], 89)] := Kw.Mem.begin1 hM
  refine Kw.to (b := ⟨#[.agg #[.slice (some ⟨B, 0, none⟩) 1 1, .int .i64 32, .bool true, .int .i64 12], .int .i64 (s y), undef, undef, undef, undef, undef, undef, undef, undef, undef, undef, undef, undef, undef, undef, undef, undef, undef, undef, undef, undef, undef, undef, undef, undef], []⟩) (by kernel_rfl) ?_
  refine wp_seq (Kw.region ?_)
  refine Kw.alloc #[.slice (some ⟨B, 0, none⟩) 1 1, .int .i64 32, .bool true, .int .i64 12] 64 M0 (by kernel_rfl) (by kernel_rfl) fun w1 B1 M1 => ?_
  refine KS.p (.bool false) ?_
  refine KS.n4 ?_
  refine KS.p (.pointer (some ⟨B1, 0, none⟩)) ?_
  refine KS.l 62 B1 0 (.slice (some ⟨B, 0, none⟩) 1 1) M1 0 Try.underlying62 ?_
  refine KS.p (.int .i64 1) ?_
  refine KS.p (.bool false) ?_
  refine KS.p (.bool false) ?_
  refine KS.p (.int .i64 (s y)) ?_
  refine KS.p (.pointer (some ⟨B1, 1, none⟩)) ?_
  refine KS.l 3 B1 1 (.int .i64 32) M1 0 Try.underlying3 ?_
  refine KS.p (.pointer (some ⟨B1, 2, none⟩)) ?_
  refine KS.l 4 B1 2 (.bool true) M1 0 Try.underlying4 ?_
  refine KS.c (.bool false) 47 #[.int .i64 (s y), .int .i64 32, .bool true] M1 (by have h := fits_c y 32 true w1; rw [hf] at h; exact h) fun w2 M2 => ?_
  refine KS.p (.bool false) ?_
  refine KS.k ?_
  refine KS.k ?_
  refine KS.k ?_
  refine KS.k ?_
  refine KS.k ?_
  refine KS.k ?_
  refine KS.k ?_
  refine KS.p (.bool false) ?_
  refine KS.p (.bool false) ?_
  refine KS.p (.bool false) ?_
  refine Kw.fin (Kw.then_normal (wp_ret ?_))
  exact bodyPost_ret (v := .bool false) (by kernel_rfl) (by kernel_rfl) ⟨rfl, Held.ro_drop M2 1 rfl hM⟩
set_option maxRecDepth 100000 in
theorem lay_J (x y : BitVec 64) (W : World) {S0 : List Nat} {W0 : World} (B : Nat) (hB : Kw.Mem S0 W0 W [(B, #[.int .i64 12, .int .i64 8, .int .i64 12, .int .i64 11, .int .i64 1, .int .i64 20, .int .i64 1, .int .i64 10, .int .i64 21, .int .i64 20, .int .i64 1, .int .i64 31], 89)]) : Calls Try.prog 46 #[.agg #[.slice (some ⟨B, 0, none⟩) 4 4, .int .i64 21, .bool true, .int .i64 1], .int .u64 (u x), .int .i64 (s y)] W fun e W' => e = .returned (.int .u64 (u (putI (putI (putI (putI x 12 8 (getI y 12 8)) 20 1 (getI y 11 1)) 21 10 (getI y 1 10)) 31 1 (getI y 20 1)))) ∧ Kw.Mem [] W W' [] := by
  have hM : W.heap[B]? = some (.cells #[.int .i64 12, .int .i64 8, .int .i64 12, .int .i64 11, .int .i64 1, .int .i64 20, .int .i64 1, .int .i64 10, .int .i64 21, .int .i64 20, .int .i64 1, .int .i64 31] 89 (0, 0)) := hB.get 0 rfl
  refine calls_of_wp Try.func46 rfl ?_
  have M0 : Kw.Mem [B] W W [(B, #[.int .i64 12, .int .i64 8, .int .i64 12, .int .i64 11, .int .i64 1, .int .i64 20, .int .i64 1, .int .i64 10, .int .i64 21, .int .i64 20, .int .i64 1, .int .i64 31], 89)] := Kw.Mem.begin1 hM
  refine Kw.to (b := ⟨#[.agg #[.slice (some ⟨B, 0, none⟩) 4 4, .int .i64 21, .bool true, .int .i64 1], .int .u64 (u x), .int .i64 (s y), undef, undef, undef, undef, undef, undef, undef, undef, undef, undef, undef, undef, undef, undef, undef, undef, undef, undef, undef, undef, undef, undef, undef, undef, undef, undef, undef, undef], []⟩) (by kernel_rfl) ?_
  refine wp_seq (Kw.region ?_)
  refine Kw.alloc #[.slice (some ⟨B, 0, none⟩) 4 4, .int .i64 21, .bool true, .int .i64 1] 64 M0 (by kernel_rfl) (by kernel_rfl) fun w1 B1 M1 => ?_
  refine KS.p (.int .u64 0) ?_
  refine KS.n5 ?_
  refine KS.p (.pointer (some ⟨B1, 0, none⟩)) ?_
  refine KS.l 62 B1 0 (.slice (some ⟨B, 0, none⟩) 4 4) M1 0 Try.underlying62 ?_
  refine KS.p (.int .i64 4) ?_
  refine KS.p (.int .i64 0) ?_
  refine Kw.fin (Kw.then_normal (wp_block ?_))
  refine wp_loop_rounds 5 ?_
  refine Kw.round_succ (wp_seq (Kw.region ?_))
  refine KS.p (.bool true) ?_
  refine Kw.fin (Kw.then_normal (wp_seq ?_))
  refine wp_cond_true (by kernel_rfl) ?_
  refine wp_skip (Kw.then_normal (wp_seq (wp_block (wp_seq (Kw.region ?_)))))
  refine KS.p (.pointer (some ⟨B, 0, none⟩)) ?_
  refine KS.s (Canon.ldS 89 (.pointer (some ⟨B, 0, none⟩))) (.agg #[.int .i64 12, .int .i64 8, .int .i64 12]) (Kw.ld_mid 89 0 [.int .i64 12, .int .i64 8, .int .i64 12] (M1.get 1 rfl) (by kernel_rfl) _ Try.underlying89 rfl (by kernel_rfl)) ?_
  refine Kw.alloc #[.int .i64 0, .int .i64 0, .int .i64 0] 89 M1 (by kernel_rfl) (by kernel_rfl) fun w2 B2 M2 => ?_
  refine Kw.storeAll 0 89 #[.int .i64 12, .int .i64 8, .int .i64 12] M2 rfl (by kernel_rfl) (by kernel_rfl) (Eq.trans (b := 3) (by kernel_rfl) (by kernel_rfl)) (by kernel_rfl) (by kernel_rfl) fun w3 M3 => ?_
  refine KS.n2 ?_
  refine Canon.region_canon (I := fun w => Kw.Mem [B] W w [(B2, #[.int .i64 12, .int .i64 8, .int .i64 12], 89), (B1, #[.slice (some ⟨B, 0, none⟩) 4 4, .int .i64 21, .bool true, .int .i64 1], 64), (B, #[.int .i64 12, .int .i64 8, .int .i64 12, .int .i64 11, .int .i64 1, .int .i64 20, .int .i64 1, .int .i64 10, .int .i64 21, .int .i64 20, .int .i64 1, .int .i64 31], 89)]) (by kernel_rfl) (by decide +kernel) M3.drew' ?_
  refine KS.q (.int .u64 (u x)) ?_
  refine KS.q (.pointer (some ⟨B2, 2, none⟩)) ?_
  refine KS.ql 3 B2 2 (.int .i64 12) 0 Try.underlying3 ?_
  refine KS.q (.pointer (some ⟨B2, 1, none⟩)) ?_
  refine KS.ql 3 B2 1 (.int .i64 8) 0 Try.underlying3 ?_
  refine KS.q (.int .i64 (s y)) ?_
  refine Canon.pure (.int .u64 (u y)) (by kernel_rfl) (fun w => Kw.eqv (v := .int .u64 (IntKind.u64.wrap (s y))) (by kernel_rfl) (congrArg (Value.int .u64) (wrap_s y))) ?_
  refine KS.q (.pointer (some ⟨B2, 0, none⟩)) ?_
  refine KS.ql 3 B2 0 (.int .i64 12) 0 Try.underlying3 ?_
  refine KS.q (.pointer (some ⟨B2, 1, none⟩)) ?_
  refine KS.ql 3 B2 1 (.int .i64 8) 0 Try.underlying3 ?_
  refine Canon.call (.int .u64 (u (getI y 12 8))) 36 #[.int .u64 (u y), .int .i64 12, .int .i64 8] (by kernel_rfl) (fun w => by kernel_rfl) (fun w hw => (get_c y 12 8 w).mono fun r w1 ⟨he, hb⟩ => ⟨he, hw.call hb⟩) ?_
  refine Canon.call (.int .u64 (u (putI x 12 8 (getI y 12 8)))) 48 #[.int .u64 (u x), .int .i64 12, .int .i64 8, .int .u64 (u (getI y 12 8))] (by kernel_rfl) (fun w => by kernel_rfl) (fun w hw => (put_c x 12 8 (getI y 12 8) w).mono fun r w1 ⟨he, hb⟩ => ⟨he, hw.call hb⟩) ?_
  refine KS.q (.int .u64 (u (putI x 12 8 (getI y 12 8)))) ?_
  refine Canon.fin fun w4 M4 => ?_
  refine Kw.block_normal (Kw.then_normal (Kw.region ?_))
  refine KS.p (.int .i64 1) ?_
  refine KS.p (.int .i64 1) ?_
  refine Kw.fin (Kw.then_normal (Kw.round_succ (wp_seq (Kw.region ?_))))
  refine KS.p (.bool true) ?_
  refine Kw.fin (Kw.then_normal (wp_seq ?_))
  refine wp_cond_true (by kernel_rfl) ?_
  refine wp_skip (Kw.then_normal (wp_seq (wp_block (wp_seq (Kw.region ?_)))))
  refine KS.p (.pointer (some ⟨B, 3, none⟩)) ?_
  refine KS.s (Canon.ldS 89 (.pointer (some ⟨B, 3, none⟩))) (.agg #[.int .i64 11, .int .i64 1, .int .i64 20]) (Kw.ld_mid 89 3 [.int .i64 11, .int .i64 1, .int .i64 20] (M4.get 2 rfl) (by kernel_rfl) _ Try.underlying89 rfl (by kernel_rfl)) ?_
  refine Kw.alloc #[.int .i64 0, .int .i64 0, .int .i64 0] 89 M4 (by kernel_rfl) (by kernel_rfl) fun w5 B5 M5 => ?_
  refine Kw.storeAll 0 89 #[.int .i64 11, .int .i64 1, .int .i64 20] M5 rfl (by kernel_rfl) (by kernel_rfl) (Eq.trans (b := 3) (by kernel_rfl) (by kernel_rfl)) (by kernel_rfl) (by kernel_rfl) fun w6 M6 => ?_
  refine KS.n2 ?_
  refine Canon.region_canon (I := fun w => Kw.Mem [B] W w [(B5, #[.int .i64 11, .int .i64 1, .int .i64 20], 89), (B2, #[.int .i64 12, .int .i64 8, .int .i64 12], 89), (B1, #[.slice (some ⟨B, 0, none⟩) 4 4, .int .i64 21, .bool true, .int .i64 1], 64), (B, #[.int .i64 12, .int .i64 8, .int .i64 12, .int .i64 11, .int .i64 1, .int .i64 20, .int .i64 1, .int .i64 10, .int .i64 21, .int .i64 20, .int .i64 1, .int .i64 31], 89)]) (by kernel_rfl) (by decide +kernel) M6.drew' ?_
  refine KS.q (.int .u64 (u (putI x 12 8 (getI y 12 8)))) ?_
  refine KS.q (.pointer (some ⟨B5, 2, none⟩)) ?_
  refine KS.ql 3 B5 2 (.int .i64 20) 0 Try.underlying3 ?_
  refine KS.q (.pointer (some ⟨B5, 1, none⟩)) ?_
  refine KS.ql 3 B5 1 (.int .i64 1) 0 Try.underlying3 ?_
  refine KS.q (.int .i64 (s y)) ?_
  refine Canon.pure (.int .u64 (u y)) (by kernel_rfl) (fun w => Kw.eqv (v := .int .u64 (IntKind.u64.wrap (s y))) (by kernel_rfl) (congrArg (Value.int .u64) (wrap_s y))) ?_
  refine KS.q (.pointer (some ⟨B5, 0, none⟩)) ?_
  refine KS.ql 3 B5 0 (.int .i64 11) 0 Try.underlying3 ?_
  refine KS.q (.pointer (some ⟨B5, 1, none⟩)) ?_
  refine KS.ql 3 B5 1 (.int .i64 1) 0 Try.underlying3 ?_
  refine Canon.call (.int .u64 (u (getI y 11 1))) 36 #[.int .u64 (u y), .int .i64 11, .int .i64 1] (by kernel_rfl) (fun w => by kernel_rfl) (fun w hw => (get_c y 11 1 w).mono fun r w1 ⟨he, hb⟩ => ⟨he, hw.call hb⟩) ?_
  refine Canon.call (.int .u64 (u (putI (putI x 12 8 (getI y 12 8)) 20 1 (getI y 11 1)))) 48 #[.int .u64 (u (putI x 12 8 (getI y 12 8))), .int .i64 20, .int .i64 1, .int .u64 (u (getI y 11 1))] (by kernel_rfl) (fun w => by kernel_rfl) (fun w hw => (put_c (putI x 12 8 (getI y 12 8)) 20 1 (getI y 11 1) w).mono fun r w1 ⟨he, hb⟩ => ⟨he, hw.call hb⟩) ?_
  refine KS.q (.int .u64 (u (putI (putI x 12 8 (getI y 12 8)) 20 1 (getI y 11 1)))) ?_
  refine Canon.fin fun w7 M7 => ?_
  refine Kw.block_normal (Kw.then_normal ?_)
  refine Kw.to (b := ⟨#[.agg #[.slice (some ⟨B, 0, none⟩) 4 4, .int .i64 21, .bool true, .int .i64 1], .int .u64 (u (putI (putI x 12 8 (getI y 12 8)) 20 1 (getI y 11 1))), .int .i64 (s y), .pointer (some ⟨B1, 0, none⟩), undef, undef, .int .u64 0, undef, .pointer (some ⟨B5, 0, none⟩), .pointer (some ⟨B1, 0, none⟩), .slice (some ⟨B, 0, none⟩) 4 4, .int .i64 4, .int .i64 1, .bool true, .pointer (some ⟨B, 3, none⟩), .agg #[.int .i64 11, .int .i64 1, .int .i64 20], .int .u64 (u (putI x 12 8 (getI y 12 8))), .pointer (some ⟨B5, 2, none⟩), .int .i64 20, .pointer (some ⟨B5, 1, none⟩), .int .i64 1, .int .i64 (s y), .int .u64 (u y), .pointer (some ⟨B5, 0, none⟩), .int .i64 11, .pointer (some ⟨B5, 1, none⟩), .int .i64 1, .int .u64 (u (getI y 11 1)), .int .u64 (u (putI (putI x 12 8 (getI y 12 8)) 20 1 (getI y 11 1))), .int .i64 1, undef], []⟩) (by kernel_rfl) ?_
  refine Kw.region ?_
  refine KS.p (.int .i64 2) ?_
  refine KS.p (.int .i64 2) ?_
  refine Kw.fin (Kw.then_normal (Kw.round_succ (wp_seq (Kw.region ?_))))
  refine KS.p (.bool true) ?_
  refine Kw.fin (Kw.then_normal (wp_seq ?_))
  refine wp_cond_true (by kernel_rfl) ?_
  refine wp_skip (Kw.then_normal (wp_seq (wp_block (wp_seq (Kw.region ?_)))))
  refine KS.p (.pointer (some ⟨B, 6, none⟩)) ?_
  refine KS.s (Canon.ldS 89 (.pointer (some ⟨B, 6, none⟩))) (.agg #[.int .i64 1, .int .i64 10, .int .i64 21]) (Kw.ld_mid 89 6 [.int .i64 1, .int .i64 10, .int .i64 21] (M7.get 3 rfl) (by kernel_rfl) _ Try.underlying89 rfl (by kernel_rfl)) ?_
  refine Kw.alloc #[.int .i64 0, .int .i64 0, .int .i64 0] 89 M7 (by kernel_rfl) (by kernel_rfl) fun w8 B8 M8 => ?_
  refine Kw.storeAll 0 89 #[.int .i64 1, .int .i64 10, .int .i64 21] M8 rfl (by kernel_rfl) (by kernel_rfl) (Eq.trans (b := 3) (by kernel_rfl) (by kernel_rfl)) (by kernel_rfl) (by kernel_rfl) fun w9 M9 => ?_
  refine KS.n2 ?_
  refine Canon.region_canon (I := fun w => Kw.Mem [B] W w [(B8, #[.int .i64 1, .int .i64 10, .int .i64 21], 89), (B5, #[.int .i64 11, .int .i64 1, .int .i64 20], 89), (B2, #[.int .i64 12, .int .i64 8, .int .i64 12], 89), (B1, #[.slice (some ⟨B, 0, none⟩) 4 4, .int .i64 21, .bool true, .int .i64 1], 64), (B, #[.int .i64 12, .int .i64 8, .int .i64 12, .int .i64 11, .int .i64 1, .int .i64 20, .int .i64 1, .int .i64 10, .int .i64 21, .int .i64 20, .int .i64 1, .int .i64 31], 89)]) (by kernel_rfl) (by decide +kernel) M9.drew' ?_
  refine KS.q (.int .u64 (u (putI (putI x 12 8 (getI y 12 8)) 20 1 (getI y 11 1)))) ?_
  refine KS.q (.pointer (some ⟨B8, 2, none⟩)) ?_
  refine KS.ql 3 B8 2 (.int .i64 21) 0 Try.underlying3 ?_
  refine KS.q (.pointer (some ⟨B8, 1, none⟩)) ?_
  refine KS.ql 3 B8 1 (.int .i64 10) 0 Try.underlying3 ?_
  refine KS.q (.int .i64 (s y)) ?_
  refine Canon.pure (.int .u64 (u y)) (by kernel_rfl) (fun w => Kw.eqv (v := .int .u64 (IntKind.u64.wrap (s y))) (by kernel_rfl) (congrArg (Value.int .u64) (wrap_s y))) ?_
  refine KS.q (.pointer (some ⟨B8, 0, none⟩)) ?_
  refine KS.ql 3 B8 0 (.int .i64 1) 0 Try.underlying3 ?_
  refine KS.q (.pointer (some ⟨B8, 1, none⟩)) ?_
  refine KS.ql 3 B8 1 (.int .i64 10) 0 Try.underlying3 ?_
  refine Canon.call (.int .u64 (u (getI y 1 10))) 36 #[.int .u64 (u y), .int .i64 1, .int .i64 10] (by kernel_rfl) (fun w => by kernel_rfl) (fun w hw => (get_c y 1 10 w).mono fun r w1 ⟨he, hb⟩ => ⟨he, hw.call hb⟩) ?_
  refine Canon.call (.int .u64 (u (putI (putI (putI x 12 8 (getI y 12 8)) 20 1 (getI y 11 1)) 21 10 (getI y 1 10)))) 48 #[.int .u64 (u (putI (putI x 12 8 (getI y 12 8)) 20 1 (getI y 11 1))), .int .i64 21, .int .i64 10, .int .u64 (u (getI y 1 10))] (by kernel_rfl) (fun w => by kernel_rfl) (fun w hw => (put_c (putI (putI x 12 8 (getI y 12 8)) 20 1 (getI y 11 1)) 21 10 (getI y 1 10) w).mono fun r w1 ⟨he, hb⟩ => ⟨he, hw.call hb⟩) ?_
  refine KS.q (.int .u64 (u (putI (putI (putI x 12 8 (getI y 12 8)) 20 1 (getI y 11 1)) 21 10 (getI y 1 10)))) ?_
  refine Canon.fin fun w10 M10 => ?_
  refine Kw.block_normal (Kw.then_normal (Kw.region ?_))
  refine KS.p (.int .i64 3) ?_
  refine KS.p (.int .i64 3) ?_
  refine Kw.fin (Kw.then_normal (Kw.round_succ (wp_seq (Kw.region ?_))))
  refine KS.p (.bool true) ?_
  refine Kw.fin (Kw.then_normal (wp_seq ?_))
  refine wp_cond_true (by kernel_rfl) ?_
  refine wp_skip (Kw.then_normal (wp_seq (wp_block (wp_seq (Kw.region ?_)))))
  refine KS.p (.pointer (some ⟨B, 9, none⟩)) ?_
  refine KS.s (Canon.ldS 89 (.pointer (some ⟨B, 9, none⟩))) (.agg #[.int .i64 20, .int .i64 1, .int .i64 31]) (Kw.ld_mid 89 9 [.int .i64 20, .int .i64 1, .int .i64 31] (M10.get 4 rfl) (by kernel_rfl) _ Try.underlying89 rfl (by kernel_rfl)) ?_
  refine Kw.alloc #[.int .i64 0, .int .i64 0, .int .i64 0] 89 M10 (by kernel_rfl) (by kernel_rfl) fun w11 B11 M11 => ?_
  refine Kw.storeAll 0 89 #[.int .i64 20, .int .i64 1, .int .i64 31] M11 rfl (by kernel_rfl) (by kernel_rfl) (Eq.trans (b := 3) (by kernel_rfl) (by kernel_rfl)) (by kernel_rfl) (by kernel_rfl) fun w12 M12 => ?_
  refine KS.n2 ?_
  refine Canon.region_canon (I := fun w => Kw.Mem [B] W w [(B11, #[.int .i64 20, .int .i64 1, .int .i64 31], 89), (B8, #[.int .i64 1, .int .i64 10, .int .i64 21], 89), (B5, #[.int .i64 11, .int .i64 1, .int .i64 20], 89), (B2, #[.int .i64 12, .int .i64 8, .int .i64 12], 89), (B1, #[.slice (some ⟨B, 0, none⟩) 4 4, .int .i64 21, .bool true, .int .i64 1], 64), (B, #[.int .i64 12, .int .i64 8, .int .i64 12, .int .i64 11, .int .i64 1, .int .i64 20, .int .i64 1, .int .i64 10, .int .i64 21, .int .i64 20, .int .i64 1, .int .i64 31], 89)]) (by kernel_rfl) (by decide +kernel) M12.drew' ?_
  refine KS.q (.int .u64 (u (putI (putI (putI x 12 8 (getI y 12 8)) 20 1 (getI y 11 1)) 21 10 (getI y 1 10)))) ?_
  refine KS.q (.pointer (some ⟨B11, 2, none⟩)) ?_
  refine KS.ql 3 B11 2 (.int .i64 31) 0 Try.underlying3 ?_
  refine KS.q (.pointer (some ⟨B11, 1, none⟩)) ?_
  refine KS.ql 3 B11 1 (.int .i64 1) 0 Try.underlying3 ?_
  refine KS.q (.int .i64 (s y)) ?_
  refine Canon.pure (.int .u64 (u y)) (by kernel_rfl) (fun w => Kw.eqv (v := .int .u64 (IntKind.u64.wrap (s y))) (by kernel_rfl) (congrArg (Value.int .u64) (wrap_s y))) ?_
  refine KS.q (.pointer (some ⟨B11, 0, none⟩)) ?_
  refine KS.ql 3 B11 0 (.int .i64 20) 0 Try.underlying3 ?_
  refine KS.q (.pointer (some ⟨B11, 1, none⟩)) ?_
  refine KS.ql 3 B11 1 (.int .i64 1) 0 Try.underlying3 ?_
  refine Canon.call (.int .u64 (u (getI y 20 1))) 36 #[.int .u64 (u y), .int .i64 20, .int .i64 1] (by kernel_rfl) (fun w => by kernel_rfl) (fun w hw => (get_c y 20 1 w).mono fun r w1 ⟨he, hb⟩ => ⟨he, hw.call hb⟩) ?_
  refine Canon.call (.int .u64 (u (putI (putI (putI (putI x 12 8 (getI y 12 8)) 20 1 (getI y 11 1)) 21 10 (getI y 1 10)) 31 1 (getI y 20 1)))) 48 #[.int .u64 (u (putI (putI (putI x 12 8 (getI y 12 8)) 20 1 (getI y 11 1)) 21 10 (getI y 1 10))), .int .i64 31, .int .i64 1, .int .u64 (u (getI y 20 1))] (by kernel_rfl) (fun w => by kernel_rfl) (fun w hw => (put_c (putI (putI (putI x 12 8 (getI y 12 8)) 20 1 (getI y 11 1)) 21 10 (getI y 1 10)) 31 1 (getI y 20 1) w).mono fun r w1 ⟨he, hb⟩ => ⟨he, hw.call hb⟩) ?_
  refine KS.q (.int .u64 (u (putI (putI (putI (putI x 12 8 (getI y 12 8)) 20 1 (getI y 11 1)) 21 10 (getI y 1 10)) 31 1 (getI y 20 1)))) ?_
  refine Canon.fin fun w13 M13 => ?_
  refine Kw.block_normal (Kw.then_normal ?_)
  refine Kw.to (b := ⟨#[.agg #[.slice (some ⟨B, 0, none⟩) 4 4, .int .i64 21, .bool true, .int .i64 1], .int .u64 (u (putI (putI (putI (putI x 12 8 (getI y 12 8)) 20 1 (getI y 11 1)) 21 10 (getI y 1 10)) 31 1 (getI y 20 1))), .int .i64 (s y), .pointer (some ⟨B1, 0, none⟩), undef, undef, .int .u64 0, undef, .pointer (some ⟨B11, 0, none⟩), .pointer (some ⟨B1, 0, none⟩), .slice (some ⟨B, 0, none⟩) 4 4, .int .i64 4, .int .i64 3, .bool true, .pointer (some ⟨B, 9, none⟩), .agg #[.int .i64 20, .int .i64 1, .int .i64 31], .int .u64 (u (putI (putI (putI x 12 8 (getI y 12 8)) 20 1 (getI y 11 1)) 21 10 (getI y 1 10))), .pointer (some ⟨B11, 2, none⟩), .int .i64 31, .pointer (some ⟨B11, 1, none⟩), .int .i64 1, .int .i64 (s y), .int .u64 (u y), .pointer (some ⟨B11, 0, none⟩), .int .i64 20, .pointer (some ⟨B11, 1, none⟩), .int .i64 1, .int .u64 (u (getI y 20 1)), .int .u64 (u (putI (putI (putI (putI x 12 8 (getI y 12 8)) 20 1 (getI y 11 1)) 21 10 (getI y 1 10)) 31 1 (getI y 20 1))), .int .i64 3, undef], []⟩) (by kernel_rfl) ?_
  refine Kw.region ?_
  refine KS.p (.int .i64 4) ?_
  refine KS.p (.int .i64 4) ?_
  refine Kw.fin (Kw.then_normal (Kw.round_succ (wp_seq (Kw.region ?_))))
  refine KS.p (.bool false) ?_
  refine Kw.fin (Kw.then_normal (wp_seq ?_))
  refine wp_cond_false (by kernel_rfl) ?_
  refine wp_exit (Kw.then_exit (Kw.then_exit (Kw.block_hit (Kw.then_normal (wp_seq (Kw.region ?_))))))
  refine KS.p (.int .u64 (u (putI (putI (putI (putI x 12 8 (getI y 12 8)) 20 1 (getI y 11 1)) 21 10 (getI y 1 10)) 31 1 (getI y 20 1)))) ?_
  refine KS.p (.int .u64 (u (putI (putI (putI (putI x 12 8 (getI y 12 8)) 20 1 (getI y 11 1)) 21 10 (getI y 1 10)) 31 1 (getI y 20 1)))) ?_
  refine Kw.fin (Kw.then_normal (wp_ret ?_))
  exact bodyPost_ret (v := .int .u64 (u (putI (putI (putI (putI x 12 8 (getI y 12 8)) 20 1 (getI y 11 1)) 21 10 (getI y 1 10)) 31 1 (getI y 20 1)))) (by kernel_rfl) (by kernel_rfl) ⟨rfl, Held.ro_drop M13 5 rfl hM⟩
set_option maxRecDepth 100000 in
theorem fits_J1 (y : BitVec 64) (W : World) {S0 : List Nat} {W0 : World} (B : Nat) (hB : Kw.Mem S0 W0 W [(B, #[.int .i64 12, .int .i64 8, .int .i64 12, .int .i64 11, .int .i64 1, .int .i64 20, .int .i64 1, .int .i64 10, .int .i64 21, .int .i64 20, .int .i64 1, .int .i64 31], 89)]) (hf : fitsI y 21 true = true) : Calls Try.prog 43 #[.agg #[.slice (some ⟨B, 0, none⟩) 4 4, .int .i64 21, .bool true, .int .i64 1], .int .i64 (s y)] W fun e W' => e = .returned (.bool ((u (y &&& (maskI 1))) == (0 : Int))) ∧ Kw.Mem [] W W' [] := by
  have hM : W.heap[B]? = some (.cells #[.int .i64 12, .int .i64 8, .int .i64 12, .int .i64 11, .int .i64 1, .int .i64 20, .int .i64 1, .int .i64 10, .int .i64 21, .int .i64 20, .int .i64 1, .int .i64 31] 89 (0, 0)) := hB.get 0 rfl
  refine calls_of_wp Try.func43 rfl ?_
  have M0 : Kw.Mem [B] W W [(B, #[.int .i64 12, .int .i64 8, .int .i64 12, .int .i64 11, .int .i64 1, .int .i64 20, .int .i64 1, .int .i64 10, .int .i64 21, .int .i64 20, .int .i64 1, .int .i64 31], 89)] := Kw.Mem.begin1 hM
  refine Kw.to (b := ⟨#[.agg #[.slice (some ⟨B, 0, none⟩) 4 4, .int .i64 21, .bool true, .int .i64 1], .int .i64 (s y), undef, undef, undef, undef, undef, undef, undef, undef, undef, undef, undef, undef, undef, undef, undef, undef, undef, undef, undef, undef, undef, undef, undef, undef], []⟩) (by kernel_rfl) ?_
  refine wp_seq (Kw.region ?_)
  refine Kw.alloc #[.slice (some ⟨B, 0, none⟩) 4 4, .int .i64 21, .bool true, .int .i64 1] 64 M0 (by kernel_rfl) (by kernel_rfl) fun w1 B1 M1 => ?_
  refine KS.p (.bool false) ?_
  refine KS.n4 ?_
  refine KS.p (.pointer (some ⟨B1, 0, none⟩)) ?_
  refine KS.l 62 B1 0 (.slice (some ⟨B, 0, none⟩) 4 4) M1 0 Try.underlying62 ?_
  refine KS.p (.int .i64 4) ?_
  refine KS.p (.bool false) ?_
  refine KS.p (.bool false) ?_
  refine KS.p (.int .i64 (s y)) ?_
  refine KS.p (.pointer (some ⟨B1, 1, none⟩)) ?_
  refine KS.l 3 B1 1 (.int .i64 21) M1 0 Try.underlying3 ?_
  refine KS.p (.pointer (some ⟨B1, 2, none⟩)) ?_
  refine KS.l 4 B1 2 (.bool true) M1 0 Try.underlying4 ?_
  refine KS.c (.bool true) 47 #[.int .i64 (s y), .int .i64 21, .bool true] M1 (by have h := fits_c y 21 true w1; rw [hf] at h; exact h) fun w2 M2 => ?_
  refine KS.p (.bool true) ?_
  refine KS.p (.int .i64 (s y)) ?_
  refine Kw.pure (.int .u64 (u y)) (by kernel_rfl) (Kw.eqv (v := .int .u64 (IntKind.u64.wrap (s y))) (by kernel_rfl) (congrArg (Value.int .u64) (wrap_s y))) ?_
  refine KS.p (.pointer (some ⟨B1, 3, none⟩)) ?_
  refine KS.l 3 B1 3 (.int .i64 1) M2 0 Try.underlying3 ?_
  refine KS.c (.int .u64 (u (maskI 1))) 58 #[.int .i64 1] M2 (mask_c 1 w2) fun w3 M3 => ?_
  refine Kw.pure (.int .u64 (u (y &&& (maskI 1)))) (by kernel_rfl) (Kw.eqv (v := .int .u64 (Go.bits .and .u64 ((u y)) ((u (maskI 1))))) (by kernel_rfl) (congrArg (Value.int .u64) (bits_and y (maskI 1)))) ?_
  refine KS.p (.bool ((u (y &&& (maskI 1))) == (0 : Int))) ?_
  refine KS.p (.bool ((u (y &&& (maskI 1))) == (0 : Int))) ?_
  refine KS.p (.bool ((u (y &&& (maskI 1))) == (0 : Int))) ?_
  refine KS.p (.bool ((u (y &&& (maskI 1))) == (0 : Int))) ?_
  refine Kw.fin (Kw.then_normal (wp_ret ?_))
  exact bodyPost_ret (v := .bool ((u (y &&& (maskI 1))) == (0 : Int))) (by kernel_rfl) (by kernel_rfl) ⟨rfl, Held.ro_drop M3 1 rfl hM⟩
set_option maxRecDepth 100000 in
theorem fits_J0 (y : BitVec 64) (W : World) {S0 : List Nat} {W0 : World} (B : Nat) (hB : Kw.Mem S0 W0 W [(B, #[.int .i64 12, .int .i64 8, .int .i64 12, .int .i64 11, .int .i64 1, .int .i64 20, .int .i64 1, .int .i64 10, .int .i64 21, .int .i64 20, .int .i64 1, .int .i64 31], 89)]) (hf : fitsI y 21 true = false) : Calls Try.prog 43 #[.agg #[.slice (some ⟨B, 0, none⟩) 4 4, .int .i64 21, .bool true, .int .i64 1], .int .i64 (s y)] W fun e W' => e = .returned (.bool false) ∧ Kw.Mem [] W W' [] := by
  have hM : W.heap[B]? = some (.cells #[.int .i64 12, .int .i64 8, .int .i64 12, .int .i64 11, .int .i64 1, .int .i64 20, .int .i64 1, .int .i64 10, .int .i64 21, .int .i64 20, .int .i64 1, .int .i64 31] 89 (0, 0)) := hB.get 0 rfl
  refine calls_of_wp Try.func43 rfl ?_
  have M0 : Kw.Mem [B] W W [(B, #[.int .i64 12, .int .i64 8, .int .i64 12, .int .i64 11, .int .i64 1, .int .i64 20, .int .i64 1, .int .i64 10, .int .i64 21, .int .i64 20, .int .i64 1, .int .i64 31], 89)] := Kw.Mem.begin1 hM
  refine Kw.to (b := ⟨#[.agg #[.slice (some ⟨B, 0, none⟩) 4 4, .int .i64 21, .bool true, .int .i64 1], .int .i64 (s y), undef, undef, undef, undef, undef, undef, undef, undef, undef, undef, undef, undef, undef, undef, undef, undef, undef, undef, undef, undef, undef, undef, undef, undef], []⟩) (by kernel_rfl) ?_
  refine wp_seq (Kw.region ?_)
  refine Kw.alloc #[.slice (some ⟨B, 0, none⟩) 4 4, .int .i64 21, .bool true, .int .i64 1] 64 M0 (by kernel_rfl) (by kernel_rfl) fun w1 B1 M1 => ?_
  refine KS.p (.bool false) ?_
  refine KS.n4 ?_
  refine KS.p (.pointer (some ⟨B1, 0, none⟩)) ?_
  refine KS.l 62 B1 0 (.slice (some ⟨B, 0, none⟩) 4 4) M1 0 Try.underlying62 ?_
  refine KS.p (.int .i64 4) ?_
  refine KS.p (.bool false) ?_
  refine KS.p (.bool false) ?_
  refine KS.p (.int .i64 (s y)) ?_
  refine KS.p (.pointer (some ⟨B1, 1, none⟩)) ?_
  refine KS.l 3 B1 1 (.int .i64 21) M1 0 Try.underlying3 ?_
  refine KS.p (.pointer (some ⟨B1, 2, none⟩)) ?_
  refine KS.l 4 B1 2 (.bool true) M1 0 Try.underlying4 ?_
  refine KS.c (.bool false) 47 #[.int .i64 (s y), .int .i64 21, .bool true] M1 (by have h := fits_c y 21 true w1; rw [hf] at h; exact h) fun w2 M2 => ?_
  refine KS.p (.bool false) ?_
  refine KS.k ?_
  refine KS.k ?_
  refine KS.k ?_
  refine KS.k ?_
  refine KS.k ?_
  refine KS.k ?_
  refine KS.k ?_
  refine KS.p (.bool false) ?_
  refine KS.p (.bool false) ?_
  refine KS.p (.bool false) ?_
  refine Kw.fin (Kw.then_normal (wp_ret ?_))
  exact bodyPost_ret (v := .bool false) (by kernel_rfl) (by kernel_rfl) ⟨rfl, Held.ro_drop M2 1 rfl hM⟩
set_option maxRecDepth 100000 in
theorem lay_R (x y : BitVec 64) (W : World) : Calls Try.prog 46 #[.agg #[.slice none 0 0, .int .i64 0, .bool false, .int .i64 0], .int .u64 (u x), .int .i64 (s y)] W fun e W' => e = .returned (.int .u64 (u x)) ∧ Kw.Mem [] W W' [] := by
  refine calls_of_wp Try.func46 rfl ?_
  have M0 : Kw.Mem [] W W [] := Kw.Mem.start _ _
  refine Kw.to (b := ⟨#[.agg #[.slice none 0 0, .int .i64 0, .bool false, .int .i64 0], .int .u64 (u x), .int .i64 (s y), undef, undef, undef, undef, undef, undef, undef, undef, undef, undef, undef, undef, undef, undef, undef, undef, undef, undef, undef, undef, undef, undef, undef, undef, undef, undef, undef, undef], []⟩) (by kernel_rfl) ?_
  refine wp_seq (Kw.region ?_)
  refine Kw.alloc #[.slice none 0 0, .int .i64 0, .bool false, .int .i64 0] 64 M0 (by kernel_rfl) (by kernel_rfl) fun w1 B1 M1 => ?_
  refine KS.p (.int .u64 0) ?_
  refine KS.n5 ?_
  refine KS.p (.pointer (some ⟨B1, 0, none⟩)) ?_
  refine KS.l 62 B1 0 (.slice none 0 0) M1 0 Try.underlying62 ?_
  refine KS.p (.int .i64 0) ?_
  refine KS.p (.int .i64 0) ?_
  refine Kw.fin (Kw.then_normal (wp_block ?_))
  refine wp_loop_rounds 1 ?_
  refine Kw.round_succ (wp_seq (Kw.region ?_))
  refine KS.p (.bool false) ?_
  refine Kw.fin (Kw.then_normal (wp_seq ?_))
  refine wp_cond_false (by kernel_rfl) ?_
  refine wp_exit (Kw.then_exit (Kw.then_exit (Kw.block_hit (Kw.then_normal (wp_seq (Kw.region ?_))))))
  refine KS.p (.int .u64 (u x)) ?_
  refine KS.p (.int .u64 (u x)) ?_
  refine Kw.fin (Kw.then_normal (wp_ret ?_))
  exact bodyPost_ret (v := .int .u64 (u x)) (by kernel_rfl) (by kernel_rfl) ⟨rfl, M1.drop⟩
set_option maxRecDepth 100000 in
theorem fits_R1 (y : BitVec 64) (W : World) : Calls Try.prog 43 #[.agg #[.slice none 0 0, .int .i64 0, .bool false, .int .i64 0], .int .i64 (s y)] W fun e W' => e = .returned (.bool true) ∧ Kw.Mem [] W W' [] := by
  refine calls_of_wp Try.func43 rfl ?_
  have M0 : Kw.Mem [] W W [] := Kw.Mem.start _ _
  refine Kw.to (b := ⟨#[.agg #[.slice none 0 0, .int .i64 0, .bool false, .int .i64 0], .int .i64 (s y), undef, undef, undef, undef, undef, undef, undef, undef, undef, undef, undef, undef, undef, undef, undef, undef, undef, undef, undef, undef, undef, undef, undef, undef], []⟩) (by kernel_rfl) ?_
  refine wp_seq (Kw.region ?_)
  refine Kw.alloc #[.slice none 0 0, .int .i64 0, .bool false, .int .i64 0] 64 M0 (by kernel_rfl) (by kernel_rfl) fun w1 B1 M1 => ?_
  refine KS.p (.bool false) ?_
  refine KS.n4 ?_
  refine KS.p (.pointer (some ⟨B1, 0, none⟩)) ?_
  refine KS.l 62 B1 0 (.slice none 0 0) M1 0 Try.underlying62 ?_
  refine KS.p (.int .i64 0) ?_
  refine KS.p (.bool true) ?_
  refine KS.p (.bool true) ?_
  refine KS.k ?_
  refine KS.k ?_
  refine KS.k ?_
  refine KS.k ?_
  refine KS.k ?_
  refine KS.k ?_
  refine KS.k ?_
  refine KS.k ?_
  refine KS.k ?_
  refine KS.k ?_
  refine KS.k ?_
  refine KS.k ?_
  refine KS.k ?_
  refine KS.k ?_
  refine KS.k ?_
  refine KS.p (.bool true) ?_
  refine KS.p (.bool true) ?_
  refine Kw.fin (Kw.then_normal (wp_ret ?_))
  exact bodyPost_ret (v := .bool true) (by kernel_rfl) (by kernel_rfl) ⟨rfl, M1.drop⟩
end Go.Proofs.Ytpmpibcfmejbfaa.Inst
