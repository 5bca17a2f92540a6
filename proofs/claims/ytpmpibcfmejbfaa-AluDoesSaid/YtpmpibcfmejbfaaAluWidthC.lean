/- How many bytes an instruction loads or stores, and what a load makes of them: what the program's functions answer. No condition. -/
import Derived.Test.YtpmpibcfmejbfaaAluDoC
import Derived.Test.YtpmpibcfmejbfaaFieldLaws
import Derived.Test.YtpmpibcfmejbfaaAluDoesP
import Derived.Test.YtpmpibcfmejbfaaPAluDoesx3
import Derived.WalkSmall
namespace Go.Proofs.Ytpmpibcfmejbfaa.Alu
open Go.RowKit Go.Proofs.YtpmpibcfmejbfaaW.PrintWords Go.Proofs.YtpmpibcfmejbfaaW.PrintLast Go.Proofs.YtpmpibcfmejbfaaW.PrintMore Go.Proofs.Ytpmpibcfmejbfaa.Bits
theorem sign_c (x : BitVec 64) (w : Int) (W : World) : Calls Try.prog 35 #[.int .u64 (u x), .int .i64 w] W fun e W' => e = .returned (.int .u64 (u (signI x w))) ∧ Drawn0 W W' :=
  PAluDoes.field_Sign.calls _ w _ W (PAluDoes.field_Sign.eq x w)
theorem get_c (x : BitVec 64) (a w : Int) (W : World) : Calls Try.prog 36 #[.int .u64 (u x), .int .i64 a, .int .i64 w] W fun e W' => e = .returned (.int .u64 (u (getI x a w))) ∧ Drawn0 W W' :=
  PAluDoes.field_Get.calls _ a w _ W (PAluDoes.field_Get.eq x a w)
set_option maxRecDepth 100000 in
theorem width_11 (W : World) : Calls Try.prog 15 #[.int .i64 11] W fun e W' => e = .returned (.int .i64 1) ∧ Below W.heap.size W W' := by
  go_enter Try.func15, Try.ntmps15
  go_wp2
  go_ret
  exact ⟨rfl, ((Below.refl _ _).alloc (Nat.le_refl _) _).alloc (by simp) _⟩
set_option maxRecDepth 100000 in
theorem width_12 (W : World) : Calls Try.prog 15 #[.int .i64 12] W fun e W' => e = .returned (.int .i64 2) ∧ Below W.heap.size W W' := by
  go_enter Try.func15, Try.ntmps15
  go_wp2
  go_ret
  exact ⟨rfl, ((Below.refl _ _).alloc (Nat.le_refl _) _).alloc (by simp) _⟩
set_option maxRecDepth 100000 in
theorem width_13 (W : World) : Calls Try.prog 15 #[.int .i64 13] W fun e W' => e = .returned (.int .i64 4) ∧ Below W.heap.size W W' := by
  go_enter Try.func15, Try.ntmps15
  go_wp2
  go_ret
  exact ⟨rfl, ((Below.refl _ _).alloc (Nat.le_refl _) _).alloc (by simp) _⟩
set_option maxRecDepth 100000 in
theorem width_14 (W : World) : Calls Try.prog 15 #[.int .i64 14] W fun e W' => e = .returned (.int .i64 8) ∧ Below W.heap.size W W' := by
  go_enter Try.func15, Try.ntmps15
  go_wp2
  go_ret
  exact ⟨rfl, ((Below.refl _ _).alloc (Nat.le_refl _) _).alloc (by simp) _⟩
set_option maxRecDepth 100000 in
theorem width_15 (W : World) : Calls Try.prog 15 #[.int .i64 15] W fun e W' => e = .returned (.int .i64 1) ∧ Below W.heap.size W W' := by
  go_enter Try.func15, Try.ntmps15
  go_wp2
  go_ret
  exact ⟨rfl, ((Below.refl _ _).alloc (Nat.le_refl _) _).alloc (by simp) _⟩
set_option maxRecDepth 100000 in
theorem width_16 (W : World) : Calls Try.prog 15 #[.int .i64 16] W fun e W' => e = .returned (.int .i64 2) ∧ Below W.heap.size W W' := by
  go_enter Try.func15, Try.ntmps15
  go_wp2
  go_ret
  exact ⟨rfl, ((Below.refl _ _).alloc (Nat.le_refl _) _).alloc (by simp) _⟩
set_option maxRecDepth 100000 in
theorem width_17 (W : World) : Calls Try.prog 15 #[.int .i64 17] W fun e W' => e = .returned (.int .i64 4) ∧ Below W.heap.size W W' := by
  go_enter Try.func15, Try.ntmps15
  go_wp2
  go_ret
  exact ⟨rfl, ((Below.refl _ _).alloc (Nat.le_refl _) _).alloc (by simp) _⟩
set_option maxRecDepth 100000 in
theorem width_18 (W : World) : Calls Try.prog 15 #[.int .i64 18] W fun e W' => e = .returned (.int .i64 1) ∧ Below W.heap.size W W' := by
  go_enter Try.func15, Try.ntmps15
  go_wp2
  go_ret
  exact ⟨rfl, ((Below.refl _ _).alloc (Nat.le_refl _) _).alloc (by simp) _⟩
set_option maxRecDepth 100000 in
theorem width_19 (W : World) : Calls Try.prog 15 #[.int .i64 19] W fun e W' => e = .returned (.int .i64 2) ∧ Below W.heap.size W W' := by
  go_enter Try.func15, Try.ntmps15
  go_wp2
  go_ret
  exact ⟨rfl, ((Below.refl _ _).alloc (Nat.le_refl _) _).alloc (by simp) _⟩
set_option maxRecDepth 100000 in
theorem width_20 (W : World) : Calls Try.prog 15 #[.int .i64 20] W fun e W' => e = .returned (.int .i64 4) ∧ Below W.heap.size W W' := by
  go_enter Try.func15, Try.ntmps15
  go_wp2
  go_ret
  exact ⟨rfl, ((Below.refl _ _).alloc (Nat.le_refl _) _).alloc (by simp) _⟩
set_option maxRecDepth 100000 in
theorem width_21 (W : World) : Calls Try.prog 15 #[.int .i64 21] W fun e W' => e = .returned (.int .i64 8) ∧ Below W.heap.size W W' := by
  go_enter Try.func15, Try.ntmps15
  go_wp2
  go_ret
  exact ⟨rfl, ((Below.refl _ _).alloc (Nat.le_refl _) _).alloc (by simp) _⟩
set_option maxRecDepth 100000 in
theorem width_43 (W : World) : Calls Try.prog 15 #[.int .i64 43] W fun e W' => e = .returned (.int .i64 16) ∧ Below W.heap.size W W' := by
  go_enter Try.func15, Try.ntmps15
  go_wp2
  go_ret
  exact ⟨rfl, ((Below.refl _ _).alloc (Nat.le_refl _) _).alloc (by simp) _⟩
set_option maxRecDepth 100000 in
theorem width_44 (W : World) : Calls Try.prog 15 #[.int .i64 44] W fun e W' => e = .returned (.int .i64 16) ∧ Below W.heap.size W W' := by
  go_enter Try.func15, Try.ntmps15
  go_wp2
  go_ret
  exact ⟨rfl, ((Below.refl _ _).alloc (Nat.le_refl _) _).alloc (by simp) _⟩
set_option maxRecDepth 100000 in
theorem extend_11 (v : BitVec 64) (W : World) : Calls Try.prog 16 #[.int .i64 11, .int .u64 (u v)] W fun e W' => e = .returned (.int .u64 (u (signI v 8))) ∧ Below W.heap.size W W' := by
  go_enter Try.func16, Try.ntmps16
  go_wp2_with fail
  (go_at_call 15; (with_reducible refine (width_11 _).mono ?_))
  rintro e w1 ⟨rfl, hb⟩
  go_wp2_with (first | (go_at_call 35; (with_reducible refine (sign_c _ _ _).mono ?_); rintro e w' ⟨rfl, ⟨nd, rfl⟩⟩) | (go_at_call 36; (with_reducible refine (get_c _ _ _ _).mono ?_); rintro e w' ⟨rfl, ⟨nd, rfl⟩⟩))
  go_ret
  exact ⟨rfl, below_drewN hb _⟩
set_option maxRecDepth 100000 in
theorem extend_12 (v : BitVec 64) (W : World) : Calls Try.prog 16 #[.int .i64 12, .int .u64 (u v)] W fun e W' => e = .returned (.int .u64 (u (signI v 16))) ∧ Below W.heap.size W W' := by
  go_enter Try.func16, Try.ntmps16
  go_wp2_with fail
  (go_at_call 15; (with_reducible refine (width_12 _).mono ?_))
  rintro e w1 ⟨rfl, hb⟩
  go_wp2_with (first | (go_at_call 35; (with_reducible refine (sign_c _ _ _).mono ?_); rintro e w' ⟨rfl, ⟨nd, rfl⟩⟩) | (go_at_call 36; (with_reducible refine (get_c _ _ _ _).mono ?_); rintro e w' ⟨rfl, ⟨nd, rfl⟩⟩))
  go_ret
  exact ⟨rfl, below_drewN hb _⟩
set_option maxRecDepth 100000 in
theorem extend_13 (v : BitVec 64) (W : World) : Calls Try.prog 16 #[.int .i64 13, .int .u64 (u v)] W fun e W' => e = .returned (.int .u64 (u (signI v 32))) ∧ Below W.heap.size W W' := by
  go_enter Try.func16, Try.ntmps16
  go_wp2_with fail
  (go_at_call 15; (with_reducible refine (width_13 _).mono ?_))
  rintro e w1 ⟨rfl, hb⟩
  go_wp2_with (first | (go_at_call 35; (with_reducible refine (sign_c _ _ _).mono ?_); rintro e w' ⟨rfl, ⟨nd, rfl⟩⟩) | (go_at_call 36; (with_reducible refine (get_c _ _ _ _).mono ?_); rintro e w' ⟨rfl, ⟨nd, rfl⟩⟩))
  go_ret
  exact ⟨rfl, below_drewN hb _⟩
set_option maxRecDepth 100000 in
theorem extend_14 (v : BitVec 64) (W : World) : Calls Try.prog 16 #[.int .i64 14, .int .u64 (u v)] W fun e W' => e = .returned (.int .u64 (u (signI v 64))) ∧ Below W.heap.size W W' := by
  go_enter Try.func16, Try.ntmps16
  go_wp2_with fail
  (go_at_call 15; (with_reducible refine (width_14 _).mono ?_))
  rintro e w1 ⟨rfl, hb⟩
  go_wp2_with (first | (go_at_call 35; (with_reducible refine (sign_c _ _ _).mono ?_); rintro e w' ⟨rfl, ⟨nd, rfl⟩⟩) | (go_at_call 36; (with_reducible refine (get_c _ _ _ _).mono ?_); rintro e w' ⟨rfl, ⟨nd, rfl⟩⟩))
  go_ret
  exact ⟨rfl, below_drewN hb _⟩
set_option maxRecDepth 100000 in
theorem extend_15 (v : BitVec 64) (W : World) : Calls Try.prog 16 #[.int .i64 15, .int .u64 (u v)] W fun e W' => e = .returned (.int .u64 (u (getI v 0 8))) ∧ Below W.heap.size W W' := by
  go_enter Try.func16, Try.ntmps16
  go_wp2_with fail
  (go_at_call 15; (with_reducible refine (width_15 _).mono ?_))
  rintro e w1 ⟨rfl, hb⟩
  go_wp2_with (first | (go_at_call 35; (with_reducible refine (sign_c _ _ _).mono ?_); rintro e w' ⟨rfl, ⟨nd, rfl⟩⟩) | (go_at_call 36; (with_reducible refine (get_c _ _ _ _).mono ?_); rintro e w' ⟨rfl, ⟨nd, rfl⟩⟩))
  go_ret
  exact ⟨rfl, below_drewN hb _⟩
set_option maxRecDepth 100000 in
theorem extend_16 (v : BitVec 64) (W : World) : Calls Try.prog 16 #[.int .i64 16, .int .u64 (u v)] W fun e W' => e = .returned (.int .u64 (u (getI v 0 16))) ∧ Below W.heap.size W W' := by
  go_enter Try.func16, Try.ntmps16
  go_wp2_with fail
  (go_at_call 15; (with_reducible refine (width_16 _).mono ?_))
  rintro e w1 ⟨rfl, hb⟩
  go_wp2_with (first | (go_at_call 35; (with_reducible refine (sign_c _ _ _).mono ?_); rintro e w' ⟨rfl, ⟨nd, rfl⟩⟩) | (go_at_call 36; (with_reducible refine (get_c _ _ _ _).mono ?_); rintro e w' ⟨rfl, ⟨nd, rfl⟩⟩))
  go_ret
  exact ⟨rfl, below_drewN hb _⟩
set_option maxRecDepth 100000 in
theorem extend_17 (v : BitVec 64) (W : World) : Calls Try.prog 16 #[.int .i64 17, .int .u64 (u v)] W fun e W' => e = .returned (.int .u64 (u (getI v 0 32))) ∧ Below W.heap.size W W' := by
  go_enter Try.func16, Try.ntmps16
  go_wp2_with fail
  (go_at_call 15; (with_reducible refine (width_17 _).mono ?_))
  rintro e w1 ⟨rfl, hb⟩
  go_wp2_with (first | (go_at_call 35; (with_reducible refine (sign_c _ _ _).mono ?_); rintro e w' ⟨rfl, ⟨nd, rfl⟩⟩) | (go_at_call 36; (with_reducible refine (get_c _ _ _ _).mono ?_); rintro e w' ⟨rfl, ⟨nd, rfl⟩⟩))
  go_ret
  exact ⟨rfl, below_drewN hb _⟩
end Go.Proofs.Ytpmpibcfmejbfaa.Alu
