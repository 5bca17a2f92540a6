/- What the functions of package field answer. No condition but that the arguments are numbers of their kinds. -/
import Derived.Test.YtpmpibcfmejbfaaKFieldLaws
import Derived.Test.YtpmpibcfmejbfaaHeld
import Derived.Test.YtpmpibcfmejbfaaProg
import Derived.IntWalk
import Derived.Test.YtpmpibcfmejbfaaKS
namespace Go.Proofs.Ytpmpibcfmejbfaa.Inst
open Go Go.RowKit Go.Proofs.Ytpmpibcfmejbfaa.Bits
attribute [local irreducible] Go.wpList
set_option linter.unusedVariables false
set_option linter.unusedSimpArgs false
theorem shl_run {P : Program} (T : TypeId) (X Y : Operand) (x : BitVec 64) (n : Int) (h : 0 ≤ n) (w : World) : (Canon.opS .shl T X Y (.int .u64 (u x)) (.int .i64 n)).run P w = .ok (.value (.int .u64 (u (x <<< n.toNat)))) w := by
  rw [← shl_u]
  simp only [Canon.opS, eqGuard, binOp, Op.shift, if_neg (show ¬ n < 0 by omega)]
  rfl
theorem shr_run {P : Program} (T : TypeId) (X Y : Operand) (x : BitVec 64) (n : Int) (h : 0 ≤ n) (w : World) : (Canon.opS .shr T X Y (.int .u64 (u x)) (.int .i64 n)).run P w = .ok (.value (.int .u64 (u (x >>> n.toNat)))) w := by
  have e : shr .u64 (u x) n = (u x).fdiv (2 ^ min n.toNat IntKind.u64.bits) := by
    unfold shr; rw [Int.fdiv_eq_ediv_of_nonneg _ (Int.pow_nonneg (by omega))]
  rw [← shr_u, e]
  simp only [Canon.opS, eqGuard, binOp, Op.shift, if_neg (show ¬ n < 0 by omega)]
  rfl
theorem sar_run {P : Program} (T : TypeId) (X Y : Operand) (x : BitVec 64) (n : Int) (h : 0 ≤ n) (w : World) : (Canon.opS .shr T X Y (.int .i64 (s x)) (.int .i64 n)).run P w = .ok (.value (.int .i64 (s (x.sshiftRight n.toNat)))) w := by
  have e : shr .i64 (s x) n = (s x).fdiv (2 ^ min n.toNat IntKind.i64.bits) := by
    unfold shr; rw [Int.fdiv_eq_ediv_of_nonneg _ (Int.pow_nonneg (by omega))]
  rw [← shr_s, e]
  simp only [Canon.opS, eqGuard, binOp, Op.shift, if_neg (show ¬ n < 0 by omega)]
  rfl
theorem wrapi_u (x : BitVec 64) : IntKind.i64.wrap (u x) = s x := wrapi_nat x
theorem wrapi_s (x : BitVec 64) : IntKind.i64.wrap (s x) = s x := IntWalk.i64_in _ (by have := s_lt x; omega)
theorem wrap32_u (x : BitVec 64) : IntKind.u32.wrap (u x) = u (x &&& 4294967295#64) := by
  have h : (4294967295#64) = mask 32 := by decide
  rw [h]
  unfold u
  rw [BitVec.toNat_and, mask_toNat 32 (by omega), Nat.and_two_pow_sub_one_eq_mod]
  simp [IntKind.wrap, IntKind.bits, IntKind.signed]
theorem conv_u8 (x : Int) (h : 0 ≤ x ∧ x ≤ 255) : IntKind.u8.wrap x = x := by simp [IntKind.wrap, IntKind.bits, IntKind.signed]; omega
theorem mayB_iff {a w : Int} (h : mayB a w = true) : 0 ≤ w ∧ w ≤ 64 ∧ 0 ≤ a ∧ a ≤ 64 - w := by
  unfold mayB at h; exact of_decide_eq_true h
theorem ueq_bv (x y : BitVec 64) : (u x == u y) = decide (x = y) := by rw [Bool.eq_iff_iff]; simp [u_eq]
theorem may_c (a n : Int) (W : World) : Calls Try.prog 57 #[.int .i64 a, .int .i64 n] W fun e W' => e = .returned (.bool (mayB a n)) ∧ Kw.Mem [] W W' [] := by
  refine calls_of_wp Try.func57 rfl ?_
  have M0 : Kw.Mem [] W W [] := Kw.Mem.start _ _
  refine Kw.to (b := ⟨#[.int .i64 a, .int .i64 n, undef, undef, undef, undef, undef, undef, undef, undef, undef, undef, undef, undef, undef, undef, undef, undef, undef, undef, undef], []⟩) (by kernel_rfl) ?_
  refine wp_seq (Kw.region ?_)
  refine KS.p (.bool false) ?_
  refine KS.n4 ?_
  refine KS.p (.int .i64 n) ?_
  refine KS.s (Canon.opS .geq 3 (.tmp 5) (.const (.int .i64 0)) (.int .i64 n) (.int .i64 0)) (.bool (decide (n ≥ (0 : Int)))) (by kernel_rfl) ?_
  rcases Bool.eq_false_or_eq_true ((decide (n ≥ (0 : Int)))) with h1 | h1
  · skip
    refine Kw.pure (.bool true) (by kernel_rfl) (Kw.eqv (v := .bool ((decide (n ≥ (0 : Int))))) (by kernel_rfl) (congrArg Value.bool h1)) ?_
    refine KS.p (.int .i64 n) ?_
    refine KS.s (Canon.opS .leq 3 (.tmp 8) (.const (.int .i64 64)) (.int .i64 n) (.int .i64 64)) (.bool (decide (n ≤ (64 : Int)))) (by kernel_rfl) ?_
    refine KS.p (.bool (decide (n ≤ (64 : Int)))) ?_
    rcases Bool.eq_false_or_eq_true ((decide (n ≤ (64 : Int)))) with h2 | h2
    · skip
      refine Kw.pure (.bool true) (by kernel_rfl) (Kw.eqv (v := .bool ((decide (n ≤ (64 : Int))))) (by kernel_rfl) (congrArg Value.bool h2)) ?_
      refine KS.p (.int .i64 a) ?_
      refine KS.s (Canon.opS .geq 3 (.tmp 12) (.const (.int .i64 0)) (.int .i64 a) (.int .i64 0)) (.bool (decide (a ≥ (0 : Int)))) (by kernel_rfl) ?_
      refine KS.p (.bool (decide (a ≥ (0 : Int)))) ?_
      rcases Bool.eq_false_or_eq_true ((decide (a ≥ (0 : Int)))) with h3 | h3
      · skip
        refine Kw.pure (.bool true) (by kernel_rfl) (Kw.eqv (v := .bool ((decide (a ≥ (0 : Int))))) (by kernel_rfl) (congrArg Value.bool h3)) ?_
        refine KS.p (.int .i64 a) ?_
        refine KS.p (.int .i64 n) ?_
        refine KS.s (Canon.opS .sub 3 (.const (.int .i64 64)) (.tmp 17) (.int .i64 64) (.int .i64 n)) (.int .i64 (64 - n)) (Kw.eqv (v := .int .i64 (IntKind.i64.wrap ((64 : Int) - n))) (by kernel_rfl) (congrArg (Value.int .i64) (IntWalk.i64_in _ (by simp only [decide_eq_true_eq, decide_eq_false_iff_not] at *; omega)))) ?_
        refine KS.s (Canon.opS .leq 3 (.tmp 16) (.tmp 18) (.int .i64 a) (.int .i64 (64 - n))) (.bool (decide (a ≤ (64 - n)))) (by kernel_rfl) ?_
        refine KS.p (.bool (decide (a ≤ (64 - n)))) ?_
        refine KS.p (.bool (decide (a ≤ (64 - n)))) ?_
        refine Kw.fin (Kw.then_normal (wp_ret ?_))
        exact bodyPost_ret (v := .bool (decide (a ≤ (64 - n)))) (by kernel_rfl) (by kernel_rfl) ⟨congrArg (fun b => Ending.returned (Value.bool b)) (show ((decide (a ≤ (64 - n)))) = mayB a n from by unfold mayB; simp only [decide_eq_true_eq, decide_eq_false_iff_not] at *; first | (symm; rw [decide_eq_false_iff_not]; omega) | (rw [decide_eq_decide]; omega)), M0.drop⟩
      · skip
        refine Kw.pure (.bool false) (by kernel_rfl) (Kw.eqv (v := .bool ((decide (a ≥ (0 : Int))))) (by kernel_rfl) (congrArg Value.bool h3)) ?_
        refine KS.k ?_
        refine KS.k ?_
        refine KS.k ?_
        refine KS.k ?_
        refine KS.p (.bool false) ?_
        refine KS.p (.bool false) ?_
        refine Kw.fin (Kw.then_normal (wp_ret ?_))
        exact bodyPost_ret (v := .bool false) (by kernel_rfl) (by kernel_rfl) ⟨congrArg (fun b => Ending.returned (Value.bool b)) (show (false) = mayB a n from by unfold mayB; simp only [decide_eq_true_eq, decide_eq_false_iff_not] at *; first | (symm; rw [decide_eq_false_iff_not]; omega) | (rw [decide_eq_decide]; omega)), M0.drop⟩
    · skip
      refine Kw.pure (.bool false) (by kernel_rfl) (Kw.eqv (v := .bool ((decide (n ≤ (64 : Int))))) (by kernel_rfl) (congrArg Value.bool h2)) ?_
      refine KS.k ?_
      refine KS.k ?_
      refine KS.p (.bool false) ?_
      refine KS.p (.bool false) ?_
      refine KS.k ?_
      refine KS.k ?_
      refine KS.k ?_
      refine KS.k ?_
      refine KS.p (.bool false) ?_
      refine KS.p (.bool false) ?_
      refine Kw.fin (Kw.then_normal (wp_ret ?_))
      exact bodyPost_ret (v := .bool false) (by kernel_rfl) (by kernel_rfl) ⟨congrArg (fun b => Ending.returned (Value.bool b)) (show (false) = mayB a n from by unfold mayB; simp only [decide_eq_true_eq, decide_eq_false_iff_not] at *; first | (symm; rw [decide_eq_false_iff_not]; omega) | (rw [decide_eq_decide]; omega)), M0.drop⟩
  · skip
    refine Kw.pure (.bool false) (by kernel_rfl) (Kw.eqv (v := .bool ((decide (n ≥ (0 : Int))))) (by kernel_rfl) (congrArg Value.bool h1)) ?_
    refine KS.k ?_
    refine KS.k ?_
    refine KS.p (.bool false) ?_
    refine KS.p (.bool false) ?_
    refine KS.k ?_
    refine KS.k ?_
    refine KS.p (.bool false) ?_
    refine KS.p (.bool false) ?_
    refine KS.k ?_
    refine KS.k ?_
    refine KS.k ?_
    refine KS.k ?_
    refine KS.p (.bool false) ?_
    refine KS.p (.bool false) ?_
    refine Kw.fin (Kw.then_normal (wp_ret ?_))
    exact bodyPost_ret (v := .bool false) (by kernel_rfl) (by kernel_rfl) ⟨congrArg (fun b => Ending.returned (Value.bool b)) (show (false) = mayB a n from by unfold mayB; simp only [decide_eq_true_eq, decide_eq_false_iff_not] at *; first | (symm; rw [decide_eq_false_iff_not]; omega) | (rw [decide_eq_decide]; omega)), M0.drop⟩
theorem mask_c (n : Int) (W : World) : Calls Try.prog 58 #[.int .i64 n] W fun e W' => e = .returned (.int .u64 (u (maskI n))) ∧ Kw.Mem [] W W' [] := by
  refine calls_of_wp Try.func58 rfl ?_
  have M0 : Kw.Mem [] W W [] := Kw.Mem.start _ _
  refine Kw.to (b := ⟨#[.int .i64 n, undef, undef, undef, undef, undef, undef, undef, undef, undef, undef, undef], []⟩) (by kernel_rfl) ?_
  refine wp_seq (Kw.region ?_)
  refine KS.p (.int .u64 0) ?_
  refine Kw.fin (Kw.then_normal (wp_seq (wp_block (wp_seq (Kw.region ?_)))))
  refine KS.p (.int .i64 n) ?_
  refine KS.s (Canon.opS .lss 3 (.tmp 4) (.const (.int .i64 1)) (.int .i64 n) (.int .i64 1)) (.bool (decide (n < (1 : Int)))) (by kernel_rfl) ?_
  refine KS.p (.bool (decide (n < (1 : Int)))) ?_
  refine KS.n2 ?_
  refine wp_cond_split (t := (decide (n < (1 : Int)))) (by kernel_rfl) (fun h1 => ?_) (fun h1 => ?_)
  · skip
    refine wp_seq (Kw.region ?_)
    refine KS.p (.int .u64 0) ?_
    refine Kw.fin (Kw.then_normal (wp_ret (Kw.block_ret (Kw.then_ret ?_))))
    exact bodyPost_ret (v := .int .u64 0) (by kernel_rfl) (by kernel_rfl) ⟨congrArg (fun b => Ending.returned (Value.int .u64 b)) (show 0 = u (maskI n) from by simp only [decide_eq_true_eq, decide_eq_false_iff_not] at *; unfold maskI; first | (rw [show n.toNat = 0 by omega]; rfl) | (rw [Nat.min_eq_right (by omega)]; rfl) | (rw [Nat.min_eq_left (by omega)]; rfl)), M0.drop⟩
  · skip
    refine wp_seq (Kw.region ?_)
    refine KS.p (.int .i64 n) ?_
    refine KS.s (Canon.opS .geq 3 (.tmp 7) (.const (.int .i64 64)) (.int .i64 n) (.int .i64 64)) (.bool (decide (n ≥ (64 : Int)))) (by kernel_rfl) ?_
    refine KS.p (.bool (decide (n ≥ (64 : Int)))) ?_
    refine KS.n2 ?_
    refine wp_cond_split (t := (decide (n ≥ (64 : Int)))) (by kernel_rfl) (fun h2 => ?_) (fun h2 => ?_)
    · skip
      refine wp_seq (Kw.region ?_)
      refine KS.p (.int .u64 18446744073709551615) ?_
      refine Kw.fin (Kw.then_normal (wp_ret (Kw.block_ret (Kw.then_ret ?_))))
      exact bodyPost_ret (v := .int .u64 18446744073709551615) (by kernel_rfl) (by kernel_rfl) ⟨congrArg (fun b => Ending.returned (Value.int .u64 b)) (show 18446744073709551615 = u (maskI n) from by simp only [decide_eq_true_eq, decide_eq_false_iff_not] at *; unfold maskI; first | (rw [show n.toNat = 0 by omega]; rfl) | (rw [Nat.min_eq_right (by omega)]; rfl) | (rw [Nat.min_eq_left (by omega)]; rfl)), M0.drop⟩
    · skip
      refine wp_skip (Kw.block_normal (Kw.then_normal (wp_seq (Kw.region ?_))))
      refine KS.p (.int .i64 n) ?_
      refine KS.s (Canon.opS .shl 22 (.const (.int .u64 1)) (.tmp 9) (.int .u64 1) (.int .i64 n)) (.int .u64 (u (1#64 <<< n.toNat))) (shl_run _ _ _ 1#64 n (by simp only [decide_eq_true_eq, decide_eq_false_iff_not] at *; omega) W) ?_
      refine KS.s (Canon.opS .sub 22 (.tmp 10) (.const (.int .u64 1)) (.int .u64 (u (1#64 <<< n.toNat))) (.int .u64 1)) (.int .u64 (u ((1#64 <<< n.toNat) - 1#64))) (Kw.eqv (v := .int .u64 (IntKind.u64.wrap ((u (1#64 <<< n.toNat)) - (1 : Int)))) (by kernel_rfl) (congrArg (Value.int .u64) (wrap_sub (1#64 <<< n.toNat) 1#64))) ?_
      refine KS.p (.int .u64 (u ((1#64 <<< n.toNat) - 1#64))) ?_
      refine Kw.fin (Kw.then_normal (wp_ret ?_))
      exact bodyPost_ret (v := .int .u64 (u ((1#64 <<< n.toNat) - 1#64))) (by kernel_rfl) (by kernel_rfl) ⟨congrArg (fun b => Ending.returned (Value.int .u64 b)) (show (u ((1#64 <<< n.toNat) - 1#64)) = u (maskI n) from by simp only [decide_eq_true_eq, decide_eq_false_iff_not] at *; unfold maskI; first | (rw [show n.toNat = 0 by omega]; rfl) | (rw [Nat.min_eq_right (by omega)]; rfl) | (rw [Nat.min_eq_left (by omega)]; rfl)), M0.drop⟩
theorem get_c (x : BitVec 64) (a n : Int) (W : World) : Calls Try.prog 36 #[.int .u64 (u x), .int .i64 a, .int .i64 n] W fun e W' => e = .returned (.int .u64 (u (getI x a n))) ∧ Kw.Mem [] W W' [] := by
  refine calls_of_wp Try.func36 rfl ?_
  have M0 : Kw.Mem [] W W [] := Kw.Mem.start _ _
  refine Kw.to (b := ⟨#[.int .u64 (u x), .int .i64 a, .int .i64 n, undef, undef, undef, undef, undef, undef, undef, undef, undef, undef, undef, undef, undef, undef], []⟩) (by kernel_rfl) ?_
  refine wp_seq (Kw.region ?_)
  refine KS.p (.int .u64 0) ?_
  refine KS.n5 ?_
  refine KS.p (.int .i64 a) ?_
  refine KS.p (.int .i64 n) ?_
  refine KS.c (.bool (mayB a n)) 57 #[.int .i64 a, .int .i64 n] M0 (may_c a n W) fun w1 M1 => ?_
  refine KS.p (.bool (!(mayB a n))) ?_
  refine KS.n2 ?_
  refine wp_cond_split (t := (!(mayB a n))) (by kernel_rfl) (fun h2 => ?_) (fun h2 => ?_)
  · skip
    have h3 : (mayB a n) = false := Kw.not_true h2
    refine wp_seq (Kw.region ?_)
    refine KS.p (.int .u64 0) ?_
    refine Kw.fin (Kw.then_normal (wp_ret (Kw.then_ret ?_)))
    exact bodyPost_ret (v := .int .u64 0) (by kernel_rfl) (by kernel_rfl) ⟨congrArg (fun b => Ending.returned (Value.int .u64 b)) (show 0 = u (getI x a n) from by unfold getI; rw [if_neg (by rw [h3]; exact Bool.false_ne_true)]; rfl), M1.drop⟩
  · skip
    have h4 : (mayB a n) = true := Kw.not_false h2
    refine wp_skip (Kw.then_normal (wp_seq ?_))
    refine Canon.region_canon (I := fun w => Kw.Mem [] W w []) (by kernel_rfl) (by decide +kernel) M1.drew' ?_
    refine KS.q (.int .u64 (u x)) ?_
    refine KS.q (.int .i64 a) ?_
    refine KS.qs (Canon.opS .shr 22 (.tmp 11) (.tmp 12) (.int .u64 (u x)) (.int .i64 a)) (.int .u64 (u (x >>> a.toNat))) (fun w => shr_run _ _ _ x a (by have := mayB_iff h4; omega) w) ?_
    refine KS.q (.int .i64 n) ?_
    refine Canon.call (.int .u64 (u (maskI n))) 58 #[.int .i64 n] (by kernel_rfl) (fun w => by kernel_rfl) (fun w hw => (mask_c n w).mono fun r w1 ⟨he, hb⟩ => ⟨he, hw.call hb⟩) ?_
    refine KS.qs (Canon.opS .and 22 (.tmp 13) (.tmp 15) (.int .u64 (u (x >>> a.toNat))) (.int .u64 (u (maskI n)))) (.int .u64 (u ((x >>> a.toNat) &&& (maskI n)))) (fun w => Kw.eqv (v := .int .u64 (Go.bits .and .u64 ((u (x >>> a.toNat))) ((u (maskI n))))) (by kernel_rfl) (congrArg (Value.int .u64) (bits_and (x >>> a.toNat) (maskI n)))) ?_
    refine KS.q (.int .u64 (u ((x >>> a.toNat) &&& (maskI n)))) ?_
    refine Canon.fin fun w5 M5 => ?_
    refine Kw.then_normal (wp_ret ?_)
    exact bodyPost_ret (v := .int .u64 (u ((x >>> a.toNat) &&& (maskI n)))) (by kernel_rfl) (by kernel_rfl) ⟨congrArg (fun b => Ending.returned (Value.int .u64 b)) (show (u ((x >>> a.toNat) &&& (maskI n))) = u (getI x a n) from by unfold getI; rw [if_pos h4]; unfold Bits.get maskI; rw [Nat.min_eq_left (by have := mayB_iff h4; omega)]), M5.drop⟩
theorem put_c (x : BitVec 64) (a n : Int) (v : BitVec 64) (W : World) : Calls Try.prog 48 #[.int .u64 (u x), .int .i64 a, .int .i64 n, .int .u64 (u v)] W fun e W' => e = .returned (.int .u64 (u (putI x a n v))) ∧ Kw.Mem [] W W' [] := by
  refine calls_of_wp Try.func48 rfl ?_
  have M0 : Kw.Mem [] W W [] := Kw.Mem.start _ _
  refine Kw.to (b := ⟨#[.int .u64 (u x), .int .i64 a, .int .i64 n, .int .u64 (u v), undef, undef, undef, undef, undef, undef, undef, undef, undef, undef, undef, undef, undef, undef, undef, undef, undef, undef, undef, undef, undef, undef, undef, undef], []⟩) (by kernel_rfl) ?_
  refine wp_seq (Kw.region ?_)
  refine KS.p (.int .u64 0) ?_
  refine KS.n5 ?_
  refine KS.p (.int .i64 a) ?_
  refine KS.p (.int .i64 n) ?_
  refine KS.c (.bool (mayB a n)) 57 #[.int .i64 a, .int .i64 n] M0 (may_c a n W) fun w1 M1 => ?_
  refine KS.p (.bool (!(mayB a n))) ?_
  refine KS.n2 ?_
  refine wp_cond_split (t := (!(mayB a n))) (by kernel_rfl) (fun h2 => ?_) (fun h2 => ?_)
  · skip
    have h3 : (mayB a n) = false := Kw.not_true h2
    refine wp_seq (Kw.region ?_)
    refine KS.p (.int .u64 (u x)) ?_
    refine KS.p (.int .u64 (u x)) ?_
    refine Kw.fin (Kw.then_normal (wp_ret (Kw.then_ret ?_)))
    exact bodyPost_ret (v := .int .u64 (u x)) (by kernel_rfl) (by kernel_rfl) ⟨congrArg (fun b => Ending.returned (Value.int .u64 b)) (show (u x) = u (putI x a n v) from by unfold putI; rw [if_neg (by rw [h3]; exact Bool.false_ne_true)]), M1.drop⟩
  · skip
    have h4 : (mayB a n) = true := Kw.not_false h2
    refine wp_skip (Kw.then_normal (wp_seq (Kw.region ?_)))
    refine KS.p (.int .i64 n) ?_
    refine KS.c (.int .u64 (u (maskI n))) 58 #[.int .i64 n] M1 (mask_c n w1) fun w5 M5 => ?_
    refine KS.p (.int .u64 (u (maskI n))) ?_
    refine Kw.fin (Kw.then_normal (wp_seq ?_))
    refine Canon.region_canon (I := fun w => Kw.Mem [] W w []) (by kernel_rfl) (by decide +kernel) M5.drew' ?_
    refine KS.q (.int .u64 (u x)) ?_
    refine KS.q (.int .u64 (u (maskI n))) ?_
    refine KS.q (.int .i64 a) ?_
    refine KS.qs (Canon.opS .shl 22 (.tmp 18) (.tmp 19) (.int .u64 (u (maskI n))) (.int .i64 a)) (.int .u64 (u (maskI n <<< a.toNat))) (fun w => shl_run _ _ _ (maskI n) a (by have := mayB_iff h4; omega) w) ?_
    refine KS.qs (Canon.opS .andNot 22 (.tmp 17) (.tmp 20) (.int .u64 (u x)) (.int .u64 (u (maskI n <<< a.toNat)))) (.int .u64 (u (x &&& ~~~(maskI n <<< a.toNat)))) (fun w => Kw.eqv (v := .int .u64 (Go.bits .andNot .u64 ((u x)) ((u (maskI n <<< a.toNat))))) (by kernel_rfl) (congrArg (Value.int .u64) (bits_andNot x (maskI n <<< a.toNat)))) ?_
    refine KS.q (.int .u64 (u v)) ?_
    refine KS.q (.int .u64 (u (maskI n))) ?_
    refine KS.qs (Canon.opS .and 22 (.tmp 22) (.tmp 23) (.int .u64 (u v)) (.int .u64 (u (maskI n)))) (.int .u64 (u (v &&& (maskI n)))) (fun w => Kw.eqv (v := .int .u64 (Go.bits .and .u64 ((u v)) ((u (maskI n))))) (by kernel_rfl) (congrArg (Value.int .u64) (bits_and v (maskI n)))) ?_
    refine KS.q (.int .i64 a) ?_
    refine KS.qs (Canon.opS .shl 22 (.tmp 24) (.tmp 25) (.int .u64 (u (v &&& (maskI n)))) (.int .i64 a)) (.int .u64 (u ((v &&& maskI n) <<< a.toNat))) (fun w => shl_run _ _ _ (v &&& maskI n) a (by have := mayB_iff h4; omega) w) ?_
    refine KS.qs (Canon.opS .or 22 (.tmp 21) (.tmp 26) (.int .u64 (u (x &&& ~~~(maskI n <<< a.toNat)))) (.int .u64 (u ((v &&& maskI n) <<< a.toNat)))) (.int .u64 (u ((x &&& ~~~(maskI n <<< a.toNat)) ||| ((v &&& maskI n) <<< a.toNat)))) (fun w => Kw.eqv (v := .int .u64 (Go.bits .or .u64 ((u (x &&& ~~~(maskI n <<< a.toNat)))) ((u ((v &&& maskI n) <<< a.toNat))))) (by kernel_rfl) (congrArg (Value.int .u64) (bits_or (x &&& ~~~(maskI n <<< a.toNat)) ((v &&& maskI n) <<< a.toNat)))) ?_
    refine KS.q (.int .u64 (u ((x &&& ~~~(maskI n <<< a.toNat)) ||| ((v &&& maskI n) <<< a.toNat)))) ?_
    refine Canon.fin fun w6 M6 => ?_
    refine Kw.then_normal (wp_ret ?_)
    exact bodyPost_ret (v := .int .u64 (u ((x &&& ~~~(maskI n <<< a.toNat)) ||| ((v &&& maskI n) <<< a.toNat)))) (by kernel_rfl) (by kernel_rfl) ⟨congrArg (fun b => Ending.returned (Value.int .u64 b)) (show (u ((x &&& ~~~(maskI n <<< a.toNat)) ||| ((v &&& maskI n) <<< a.toNat))) = u (putI x a n v) from by unfold putI; rw [if_pos h4]; unfold Bits.put maskI; rw [Nat.min_eq_left (by have := mayB_iff h4; omega)]), M6.drop⟩
theorem sign_c (x : BitVec 64) (n : Int) (W : World) : Calls Try.prog 35 #[.int .u64 (u x), .int .i64 n] W fun e W' => e = .returned (.int .u64 (u (signI x n))) ∧ Kw.Mem [] W W' [] := by
  refine calls_of_wp Try.func35 rfl ?_
  have M0 : Kw.Mem [] W W [] := Kw.Mem.start _ _
  refine Kw.to (b := ⟨#[.int .u64 (u x), .int .i64 n, undef, undef, undef, undef, undef, undef, undef, undef, undef, undef, undef, undef, undef, undef, undef, undef, undef, undef, undef], []⟩) (by kernel_rfl) ?_
  refine wp_seq (Kw.region ?_)
  refine KS.p (.int .u64 0) ?_
  refine KS.n5 ?_
  refine KS.p (.int .i64 n) ?_
  refine KS.s (Canon.opS .lss 3 (.tmp 6) (.const (.int .i64 1)) (.int .i64 n) (.int .i64 1)) (.bool (decide (n < (1 : Int)))) (by kernel_rfl) ?_
  rcases Bool.eq_false_or_eq_true ((decide (n < (1 : Int)))) with h1 | h1
  · skip
    refine Kw.pure (.bool true) (by kernel_rfl) (Kw.eqv (v := .bool ((decide (n < (1 : Int))))) (by kernel_rfl) (congrArg Value.bool h1)) ?_
    refine KS.k ?_
    refine KS.k ?_
    refine KS.p (.bool true) ?_
    refine KS.n2 ?_
    refine wp_cond_true (by kernel_rfl) ?_
    refine wp_seq (Kw.region ?_)
    refine KS.p (.int .u64 0) ?_
    refine Kw.fin (Kw.then_normal (wp_ret (Kw.then_ret ?_)))
    exact bodyPost_ret (v := .int .u64 0) (by kernel_rfl) (by kernel_rfl) ⟨congrArg (fun b => Ending.returned (Value.int .u64 b)) (show 0 = u (signI x n) from by simp only [decide_eq_true_eq, decide_eq_false_iff_not] at *; unfold signI; first | (rw [if_neg (by omega)]; rfl) | (rw [if_pos (by omega)]; unfold sign; rw [show (64 - n).toNat = 64 - n.toNat by omega])), M0.drop⟩
  · skip
    refine Kw.pure (.bool false) (by kernel_rfl) (Kw.eqv (v := .bool ((decide (n < (1 : Int))))) (by kernel_rfl) (congrArg Value.bool h1)) ?_
    refine KS.p (.int .i64 n) ?_
    refine KS.s (Canon.opS .gtr 3 (.tmp 9) (.const (.int .i64 64)) (.int .i64 n) (.int .i64 64)) (.bool (decide (n > (64 : Int)))) (by kernel_rfl) ?_
    refine KS.p (.bool (decide (n > (64 : Int)))) ?_
    refine KS.n2 ?_
    refine wp_cond_split (t := (decide (n > (64 : Int)))) (by kernel_rfl) (fun h2 => ?_) (fun h2 => ?_)
    · skip
      refine wp_seq (Kw.region ?_)
      refine KS.p (.int .u64 0) ?_
      refine Kw.fin (Kw.then_normal (wp_ret (Kw.then_ret ?_)))
      exact bodyPost_ret (v := .int .u64 0) (by kernel_rfl) (by kernel_rfl) ⟨congrArg (fun b => Ending.returned (Value.int .u64 b)) (show 0 = u (signI x n) from by simp only [decide_eq_true_eq, decide_eq_false_iff_not] at *; unfold signI; first | (rw [if_neg (by omega)]; rfl) | (rw [if_pos (by omega)]; unfold sign; rw [show (64 - n).toNat = 64 - n.toNat by omega])), M0.drop⟩
    · skip
      refine wp_skip (Kw.then_normal (wp_seq (Kw.region ?_)))
      refine KS.p (.int .i64 n) ?_
      refine KS.s (Canon.opS .sub 3 (.const (.int .i64 64)) (.tmp 12) (.int .i64 64) (.int .i64 n)) (.int .i64 (64 - n)) (Kw.eqv (v := .int .i64 (IntKind.i64.wrap ((64 : Int) - n))) (by kernel_rfl) (congrArg (Value.int .i64) (IntWalk.i64_in _ (by simp only [decide_eq_true_eq, decide_eq_false_iff_not] at *; omega)))) ?_
      refine KS.p (.int .i64 (64 - n)) ?_
      refine KS.n4 ?_
      refine KS.p (.int .u64 (u x)) ?_
      refine KS.p (.int .i64 (64 - n)) ?_
      refine KS.s (Canon.opS .shl 22 (.tmp 14) (.tmp 15) (.int .u64 (u x)) (.int .i64 (64 - n))) (.int .u64 (u (x <<< (64 - n).toNat))) (shl_run _ _ _ x (64 - n) (by simp only [decide_eq_true_eq, decide_eq_false_iff_not] at *; omega) W) ?_
      refine Kw.pure (.int .i64 (s (x <<< (64 - n).toNat))) (by kernel_rfl) (Kw.eqv (v := .int .i64 (IntKind.i64.wrap (u (x <<< (64 - n).toNat)))) (by kernel_rfl) (congrArg (Value.int .i64) (wrapi_u (x <<< (64 - n).toNat)))) ?_
      refine KS.p (.int .i64 (64 - n)) ?_
      refine KS.s (Canon.opS .shr 2 (.tmp 17) (.tmp 18) (.int .i64 (s (x <<< (64 - n).toNat))) (.int .i64 (64 - n))) (.int .i64 (s ((x <<< (64 - n).toNat).sshiftRight (64 - n).toNat))) (sar_run _ _ _ (x <<< (64 - n).toNat) (64 - n) (by simp only [decide_eq_true_eq, decide_eq_false_iff_not] at *; omega) W) ?_
      refine Kw.pure (.int .u64 (u ((x <<< (64 - n).toNat).sshiftRight (64 - n).toNat))) (by kernel_rfl) (Kw.eqv (v := .int .u64 (IntKind.u64.wrap (s ((x <<< (64 - n).toNat).sshiftRight (64 - n).toNat)))) (by kernel_rfl) (congrArg (Value.int .u64) (wrap_s ((x <<< (64 - n).toNat).sshiftRight (64 - n).toNat)))) ?_
      refine KS.p (.int .u64 (u ((x <<< (64 - n).toNat).sshiftRight (64 - n).toNat))) ?_
      refine Kw.fin (Kw.then_normal (wp_ret ?_))
      exact bodyPost_ret (v := .int .u64 (u ((x <<< (64 - n).toNat).sshiftRight (64 - n).toNat))) (by kernel_rfl) (by kernel_rfl) ⟨congrArg (fun b => Ending.returned (Value.int .u64 b)) (show (u ((x <<< (64 - n).toNat).sshiftRight (64 - n).toNat)) = u (signI x n) from by simp only [decide_eq_true_eq, decide_eq_false_iff_not] at *; unfold signI; first | (rw [if_neg (by omega)]; rfl) | (rw [if_pos (by omega)]; unfold sign; rw [show (64 - n).toNat = 64 - n.toNat by omega])), M0.drop⟩
theorem fits_c (x : BitVec 64) (n : Int) (sg : Bool) (W : World) : Calls Try.prog 47 #[.int .i64 (s x), .int .i64 n, .bool sg] W fun e W' => e = .returned (.bool (fitsI x n sg)) ∧ Kw.Mem [] W W' [] := by
  refine calls_of_wp Try.func47 rfl ?_
  have M0 : Kw.Mem [] W W [] := Kw.Mem.start _ _
  refine Kw.to (b := ⟨#[.int .i64 (s x), .int .i64 n, .bool sg, undef, undef, undef, undef, undef, undef, undef, undef, undef, undef, undef, undef, undef, undef, undef, undef, undef, undef, undef, undef, undef, undef, undef, undef, undef, undef, undef, undef, undef, undef], []⟩) (by kernel_rfl) ?_
  refine wp_seq (Kw.region ?_)
  refine KS.p (.bool false) ?_
  refine Kw.fin (Kw.then_normal (wp_seq (wp_block (wp_seq (Kw.region ?_)))))
  refine KS.p (.int .i64 n) ?_
  refine KS.s (Canon.opS .lss 3 (.tmp 8) (.const (.int .i64 1)) (.int .i64 n) (.int .i64 1)) (.bool (decide (n < (1 : Int)))) (by kernel_rfl) ?_
  rcases Bool.eq_false_or_eq_true ((decide (n < (1 : Int)))) with h1 | h1
  · skip
    refine Kw.pure (.bool true) (by kernel_rfl) (Kw.eqv (v := .bool ((decide (n < (1 : Int))))) (by kernel_rfl) (congrArg Value.bool h1)) ?_
    refine KS.k ?_
    refine KS.k ?_
    refine KS.p (.bool true) ?_
    refine KS.p (.bool true) ?_
    refine KS.n2 ?_
    refine wp_cond_true (by kernel_rfl) ?_
    refine wp_seq (Kw.region ?_)
    refine KS.p (.bool false) ?_
    refine Kw.fin (Kw.then_normal (wp_ret (Kw.block_ret (Kw.then_ret ?_))))
    exact bodyPost_ret (v := .bool false) (by kernel_rfl) (by kernel_rfl) ⟨congrArg (fun b => Ending.returned (Value.bool b)) (show (false) = fitsI x n sg from by simp only [decide_eq_true_eq, decide_eq_false_iff_not] at *; first | (unfold fitsI; rw [if_neg (by omega)]) | (have hw : 1 ≤ n ∧ n ≤ 64 := (by omega); have es : signI x n = sign x n.toNat := (by unfold signI; rw [if_pos hw]); have em : maskI n = mask n.toNat := (by unfold maskI; rw [Nat.min_eq_left (by omega)]); unfold fitsI; rw [if_pos hw]; first | (subst sg; rw [if_pos rfl, ueq_bv, es]) | (subst sg; have z : (u (x &&& ~~~maskI n) == 0) = decide (x &&& ~~~maskI n = 0#64) := ueq_bv _ 0#64; rw [if_neg (by decide), z, em, decide_eq_true (show 0 ≤ s x by omega), Bool.true_and]; done) | (subst sg; rw [if_neg (by decide), decide_eq_false (by omega), Bool.false_and]))), M0.drop⟩
  · skip
    refine Kw.pure (.bool false) (by kernel_rfl) (Kw.eqv (v := .bool ((decide (n < (1 : Int))))) (by kernel_rfl) (congrArg Value.bool h1)) ?_
    refine KS.p (.int .i64 n) ?_
    refine KS.s (Canon.opS .gtr 3 (.tmp 11) (.const (.int .i64 64)) (.int .i64 n) (.int .i64 64)) (.bool (decide (n > (64 : Int)))) (by kernel_rfl) ?_
    refine KS.p (.bool (decide (n > (64 : Int)))) ?_
    refine KS.p (.bool (decide (n > (64 : Int)))) ?_
    refine KS.n2 ?_
    refine wp_cond_split (t := (decide (n > (64 : Int)))) (by kernel_rfl) (fun h2 => ?_) (fun h2 => ?_)
    · skip
      refine wp_seq (Kw.region ?_)
      refine KS.p (.bool false) ?_
      refine Kw.fin (Kw.then_normal (wp_ret (Kw.block_ret (Kw.then_ret ?_))))
      exact bodyPost_ret (v := .bool false) (by kernel_rfl) (by kernel_rfl) ⟨congrArg (fun b => Ending.returned (Value.bool b)) (show (false) = fitsI x n sg from by simp only [decide_eq_true_eq, decide_eq_false_iff_not] at *; first | (unfold fitsI; rw [if_neg (by omega)]) | (have hw : 1 ≤ n ∧ n ≤ 64 := (by omega); have es : signI x n = sign x n.toNat := (by unfold signI; rw [if_pos hw]); have em : maskI n = mask n.toNat := (by unfold maskI; rw [Nat.min_eq_left (by omega)]); unfold fitsI; rw [if_pos hw]; first | (subst sg; rw [if_pos rfl, ueq_bv, es]) | (subst sg; have z : (u (x &&& ~~~maskI n) == 0) = decide (x &&& ~~~maskI n = 0#64) := ueq_bv _ 0#64; rw [if_neg (by decide), z, em, decide_eq_true (show 0 ≤ s x by omega), Bool.true_and]; done) | (subst sg; rw [if_neg (by decide), decide_eq_false (by omega), Bool.false_and]))), M0.drop⟩
    · skip
      refine wp_seq (Kw.region ?_)
      refine KS.p (.bool sg) ?_
      refine KS.p (.bool sg) ?_
      refine KS.n2 ?_
      refine wp_cond_split (t := sg) (by kernel_rfl) (fun h3 => ?_) (fun h3 => ?_)
      · skip
        refine wp_seq (Kw.region ?_)
        refine KS.p (.int .i64 (s x)) ?_
        refine Kw.pure (.int .u64 (u x)) (by kernel_rfl) (Kw.eqv (v := .int .u64 (IntKind.u64.wrap (s x))) (by kernel_rfl) (congrArg (Value.int .u64) (wrap_s x))) ?_
        refine KS.p (.int .i64 n) ?_
        refine KS.c (.int .u64 (u (signI x n))) 35 #[.int .u64 (u x), .int .i64 n] M0 (sign_c x n W) fun w4 M4 => ?_
        refine KS.p (.int .i64 (s x)) ?_
        refine Kw.pure (.int .u64 (u x)) (by kernel_rfl) (Kw.eqv (v := .int .u64 (IntKind.u64.wrap (s x))) (by kernel_rfl) (congrArg (Value.int .u64) (wrap_s x))) ?_
        refine KS.s (Canon.opS .eql 22 (.tmp 19) (.tmp 21) (.int .u64 (u (signI x n))) (.int .u64 (u x))) (.bool ((u (signI x n)) == (u x))) (by kernel_rfl) ?_
        refine KS.p (.bool ((u (signI x n)) == (u x))) ?_
        refine Kw.fin (Kw.then_normal (wp_ret (Kw.block_ret (Kw.then_ret ?_))))
        exact bodyPost_ret (v := .bool ((u (signI x n)) == (u x))) (by kernel_rfl) (by kernel_rfl) ⟨congrArg (fun b => Ending.returned (Value.bool b)) (show (((u (signI x n)) == (u x))) = fitsI x n sg from by simp only [decide_eq_true_eq, decide_eq_false_iff_not] at *; first | (unfold fitsI; rw [if_neg (by omega)]) | (have hw : 1 ≤ n ∧ n ≤ 64 := (by omega); have es : signI x n = sign x n.toNat := (by unfold signI; rw [if_pos hw]); have em : maskI n = mask n.toNat := (by unfold maskI; rw [Nat.min_eq_left (by omega)]); unfold fitsI; rw [if_pos hw]; first | (subst sg; rw [if_pos rfl, ueq_bv, es]) | (subst sg; have z : (u (x &&& ~~~maskI n) == 0) = decide (x &&& ~~~maskI n = 0#64) := ueq_bv _ 0#64; rw [if_neg (by decide), z, em, decide_eq_true (show 0 ≤ s x by omega), Bool.true_and]; done) | (subst sg; rw [if_neg (by decide), decide_eq_false (by omega), Bool.false_and]))), M4.drop⟩
      · skip
        refine wp_skip (Kw.block_normal (Kw.then_normal (wp_seq (Kw.region ?_))))
        refine KS.p (.int .i64 (s x)) ?_
        refine KS.s (Canon.opS .geq 2 (.tmp 23) (.const (.int .i64 0)) (.int .i64 (s x)) (.int .i64 0)) (.bool (decide ((s x) ≥ (0 : Int)))) (by kernel_rfl) ?_
        rcases Bool.eq_false_or_eq_true ((decide ((s x) ≥ (0 : Int)))) with h5 | h5
        · skip
          refine Kw.pure (.bool true) (by kernel_rfl) (Kw.eqv (v := .bool ((decide ((s x) ≥ (0 : Int))))) (by kernel_rfl) (congrArg Value.bool h5)) ?_
          refine KS.p (.int .i64 (s x)) ?_
          refine Kw.pure (.int .u64 (u x)) (by kernel_rfl) (Kw.eqv (v := .int .u64 (IntKind.u64.wrap (s x))) (by kernel_rfl) (congrArg (Value.int .u64) (wrap_s x))) ?_
          refine KS.p (.int .i64 n) ?_
          refine KS.c (.int .u64 (u (maskI n))) 58 #[.int .i64 n] M0 (mask_c n W) fun w6 M6 => ?_
          refine KS.s (Canon.opS .andNot 22 (.tmp 27) (.tmp 29) (.int .u64 (u x)) (.int .u64 (u (maskI n)))) (.int .u64 (u (x &&& ~~~(maskI n)))) (Kw.eqv (v := .int .u64 (Go.bits .andNot .u64 ((u x)) ((u (maskI n))))) (by kernel_rfl) (congrArg (Value.int .u64) (bits_andNot x (maskI n)))) ?_
          refine KS.s (Canon.opS .eql 22 (.tmp 30) (.const (.int .u64 0)) (.int .u64 (u (x &&& ~~~(maskI n)))) (.int .u64 0)) (.bool ((u (x &&& ~~~(maskI n))) == (0 : Int))) (by kernel_rfl) ?_
          refine KS.p (.bool ((u (x &&& ~~~(maskI n))) == (0 : Int))) ?_
          refine KS.p (.bool ((u (x &&& ~~~(maskI n))) == (0 : Int))) ?_
          refine Kw.fin (Kw.then_normal (wp_ret ?_))
          exact bodyPost_ret (v := .bool ((u (x &&& ~~~(maskI n))) == (0 : Int))) (by kernel_rfl) (by kernel_rfl) ⟨congrArg (fun b => Ending.returned (Value.bool b)) (show (((u (x &&& ~~~(maskI n))) == (0 : Int))) = fitsI x n sg from by simp only [decide_eq_true_eq, decide_eq_false_iff_not] at *; first | (unfold fitsI; rw [if_neg (by omega)]) | (have hw : 1 ≤ n ∧ n ≤ 64 := (by omega); have es : signI x n = sign x n.toNat := (by unfold signI; rw [if_pos hw]); have em : maskI n = mask n.toNat := (by unfold maskI; rw [Nat.min_eq_left (by omega)]); unfold fitsI; rw [if_pos hw]; first | (subst sg; rw [if_pos rfl, ueq_bv, es]) | (subst sg; have z : (u (x &&& ~~~maskI n) == 0) = decide (x &&& ~~~maskI n = 0#64) := ueq_bv _ 0#64; rw [if_neg (by decide), z, em, decide_eq_true (show 0 ≤ s x by omega), Bool.true_and]; done) | (subst sg; rw [if_neg (by decide), decide_eq_false (by omega), Bool.false_and]))), M6.drop⟩
        · skip
          refine Kw.pure (.bool false) (by kernel_rfl) (Kw.eqv (v := .bool ((decide ((s x) ≥ (0 : Int))))) (by kernel_rfl) (congrArg Value.bool h5)) ?_
          refine KS.k ?_
          refine KS.k ?_
          refine KS.k ?_
          refine KS.k ?_
          refine KS.k ?_
          refine KS.k ?_
          refine KS.p (.bool false) ?_
          refine KS.p (.bool false) ?_
          refine Kw.fin (Kw.then_normal (wp_ret ?_))
          exact bodyPost_ret (v := .bool false) (by kernel_rfl) (by kernel_rfl) ⟨congrArg (fun b => Ending.returned (Value.bool b)) (show (false) = fitsI x n sg from by simp only [decide_eq_true_eq, decide_eq_false_iff_not] at *; first | (unfold fitsI; rw [if_neg (by omega)]) | (have hw : 1 ≤ n ∧ n ≤ 64 := (by omega); have es : signI x n = sign x n.toNat := (by unfold signI; rw [if_pos hw]); have em : maskI n = mask n.toNat := (by unfold maskI; rw [Nat.min_eq_left (by omega)]); unfold fitsI; rw [if_pos hw]; first | (subst sg; rw [if_pos rfl, ueq_bv, es]) | (subst sg; have z : (u (x &&& ~~~maskI n) == 0) = decide (x &&& ~~~maskI n = 0#64) := ueq_bv _ 0#64; rw [if_neg (by decide), z, em, decide_eq_true (show 0 ≤ s x by omega), Bool.true_and]; done) | (subst sg; rw [if_neg (by decide), decide_eq_false (by omega), Bool.false_and]))), M0.drop⟩
end Go.Proofs.Ytpmpibcfmejbfaa.Inst
