/- What the reference's functions for bit fields answer: what the bit vectors' functions tell. No condition but that the arguments are numbers of their kinds. -/
import Derived.Test.YtpmpibcfmejbfaaInstFieldC
import Derived.Test.YtpmpibcfmejbfaaKwJ
import Derived.Test.YtpmpibcfmejbfaaKS
namespace Go.Proofs.Ytpmpibcfmejbfaa.Inst
open Go Go.RowKit Go.Proofs.Ytpmpibcfmejbfaa.Bits
attribute [local irreducible] Go.wpList
set_option linter.unusedVariables false
set_option linter.unusedSimpArgs false
/-- The bits below a place are told by a function, the others are 0. -/
def Upto (y : BitVec 64) (f : Nat → Bool) (n : Nat) : Prop := ∀ t, t < 64 → y.getLsbD t = (decide (t < n) && f t)
theorem upto_zero (f : Nat → Bool) : Upto 0#64 f 0 := fun t _ => by simp
theorem one_bit (x : BitVec 64) (j i t : Nat) (hi : i < 64) (ht : t < 64) : (((x >>> j) &&& 1#64) <<< i).getLsbD t = (decide (t = i) && x.getLsbD j) := by
  rw [BitVec.getLsbD_shiftLeft, BitVec.getLsbD_and, BitVec.getLsbD_ushiftRight, BitVec.getLsbD_one]
  by_cases h : t = i
  · subst h; simp [ht]
  · by_cases h2 : t < i
    · simp [h2, h]
    · have : ¬ t - i = 0 := by omega
      simp [h, this]
theorem upto_step {y : BitVec 64} {f : Nat → Bool} {i : Nat} (h : Upto y f i) (hi : i < 64) (x : BitVec 64) (j : Nat) (hf : x.getLsbD j = f i) :
    Upto (y ||| (((x >>> j) &&& 1#64) <<< i)) f (i + 1) := by
  intro t ht
  rw [BitVec.getLsbD_or, h t ht, one_bit x j i t hi ht, hf]
  by_cases h1 : t = i
  · subst h1; simp
  · by_cases h2 : t < i
    · have : t < i + 1 := by omega
      simp [h2, this, h1]
    · have : ¬ t < i + 1 := by omega
      simp [h2, this, h1]
theorem upto_eq {y z : BitVec 64} {f : Nat → Bool} {n : Nat} (h : Upto y f n) (hz : ∀ t, t < 64 → z.getLsbD t = (decide (t < n) && f t)) : y = z :=
  Bits.ext fun t ht => (h t ht).trans (hz t ht).symm
theorem shlu_run {P : Program} (T : TypeId) (X Y : Operand) (x : BitVec 64) (n : Nat) (w : World) : (Canon.opS .shl T X Y (.int .u64 (u x)) (.int .u64 (n : Int))).run P w = .ok (.value (.int .u64 (u (x <<< n)))) w := by
  have h := shl_u x (n : Int)
  rw [Int.toNat_natCast] at h
  rw [← h]
  simp only [Canon.opS, eqGuard, binOp, Op.shift, if_neg (show ¬ (n : Int) < 0 by omega)]
  rfl
theorem shru_run {P : Program} (T : TypeId) (X Y : Operand) (x : BitVec 64) (n : Nat) (w : World) : (Canon.opS .shr T X Y (.int .u64 (u x)) (.int .u64 (n : Int))).run P w = .ok (.value (.int .u64 (u (x >>> n)))) w := by
  have e : shr .u64 (u x) (n : Int) = (u x).fdiv (2 ^ min (n : Int).toNat IntKind.u64.bits) := by
    unfold shr; rw [Int.fdiv_eq_ediv_of_nonneg _ (Int.pow_nonneg (by omega))]
  have h := shr_u x (n : Int)
  rw [Int.toNat_natCast] at h
  rw [← h, e]
  simp only [Canon.opS, eqGuard, binOp, Op.shift, if_neg (show ¬ (n : Int) < 0 by omega)]
  rfl
theorem wrapu_nat (n : Nat) (h : n ≤ 128) : IntKind.u64.wrap ((n : Int)) = (n : Int) := by rw [wrap_u64]; omega
theorem rmay_c (a n : Int) (W : World) : Calls Try.prog 59 #[.int .i64 a, .int .i64 n] W fun e W' => e = .returned (.bool (mayB a n)) ∧ Kw.Mem [] W W' [] := by
  refine calls_of_wp Try.func59 rfl ?_
  have M0 : Kw.Mem [] W W [] := Kw.Mem.start _ _
  refine Kw.to (b := ⟨#[.int .i64 a, .int .i64 n, undef, undef, undef, undef, undef, undef, undef, undef, undef, undef, undef, undef, undef, undef, undef, undef, undef, undef, undef], []⟩) (by kernel_rfl) ?_
  refine wp_seq (Kw.region ?_)
  refine KS.p (.bool false) ?_
  refine KS.n4 ?_
  refine KS.p (.int .i64 n) ?_
  refine KS.p (.bool (decide (n ≥ (0 : Int)))) ?_
  rcases Bool.eq_false_or_eq_true ((decide (n ≥ (0 : Int)))) with h1 | h1
  · skip
    refine Kw.pure (.bool true) (by kernel_rfl) (Kw.eqv (v := .bool ((decide (n ≥ (0 : Int))))) (by kernel_rfl) (congrArg Value.bool h1)) ?_
    refine KS.p (.int .i64 n) ?_
    refine KS.p (.bool (decide (n ≤ (64 : Int)))) ?_
    refine KS.p (.bool (decide (n ≤ (64 : Int)))) ?_
    rcases Bool.eq_false_or_eq_true ((decide (n ≤ (64 : Int)))) with h2 | h2
    · skip
      refine Kw.pure (.bool true) (by kernel_rfl) (Kw.eqv (v := .bool ((decide (n ≤ (64 : Int))))) (by kernel_rfl) (congrArg Value.bool h2)) ?_
      refine KS.p (.int .i64 a) ?_
      refine KS.p (.bool (decide (a ≥ (0 : Int)))) ?_
      refine KS.p (.bool (decide (a ≥ (0 : Int)))) ?_
      rcases Bool.eq_false_or_eq_true ((decide (a ≥ (0 : Int)))) with h3 | h3
      · skip
        refine Kw.pure (.bool true) (by kernel_rfl) (Kw.eqv (v := .bool ((decide (a ≥ (0 : Int))))) (by kernel_rfl) (congrArg Value.bool h3)) ?_
        refine KS.p (.int .i64 a) ?_
        refine KS.p (.int .i64 n) ?_
        refine Kw.pure (.int .i64 (64 - n)) (by kernel_rfl) (Kw.eqv (v := .int .i64 (IntKind.i64.wrap ((64 : Int) - n))) (by kernel_rfl) (congrArg (Value.int .i64) (IntWalk.i64_in _ (by simp only [decide_eq_true_eq, decide_eq_false_iff_not] at *; omega)))) ?_
        refine KS.p (.bool (decide (a ≤ (64 - n)))) ?_
        refine KS.p (.bool (decide (a ≤ (64 - n)))) ?_
        refine KS.p (.bool (decide (a ≤ (64 - n)))) ?_
        refine Kw.fin (Kw.then_normal (wp_ret ?_))
        exact bodyPost_ret (v := .bool (decide (a ≤ (64 - n)))) (by kernel_rfl) (by kernel_rfl) ⟨congrArg (fun b => Ending.returned (Value.bool b)) (show ((decide (a ≤ (64 - n)))) = mayB a n from by unfold mayB; simp only [decide_eq_true_eq, decide_eq_false_iff_not] at *; first | (symm; rw [decide_eq_false_iff_not]; omega) | (rw [decide_eq_decide]; omega)), M0.drop⟩
      · skip
        refine Kw.pure (.bool false) (by kernel_rfl) (Kw.eqv (v := .bool ((decide (a ≥ (0 : Int))))) (by kernel_rfl) (congrArg Value.bool h3)) ?_
        refine KS.k ?_
        refine KS.k ?_
        refine KS.k ?_
        refine KS.k ?_
        refine KS.p (.bool false) ?_
        refine KS.p (.bool false) ?_
        refine Kw.fin (Kw.then_normal (wp_ret ?_))
        exact bodyPost_ret (v := .bool false) (by kernel_rfl) (by kernel_rfl) ⟨congrArg (fun b => Ending.returned (Value.bool b)) (show (false) = mayB a n from by unfold mayB; simp only [decide_eq_true_eq, decide_eq_false_iff_not] at *; first | (symm; rw [decide_eq_false_iff_not]; omega) | (rw [decide_eq_decide]; omega)), M0.drop⟩
    · skip
      refine Kw.pure (.bool false) (by kernel_rfl) (Kw.eqv (v := .bool ((decide (n ≤ (64 : Int))))) (by kernel_rfl) (congrArg Value.bool h2)) ?_
      refine KS.k ?_
      refine KS.k ?_
      refine KS.p (.bool false) ?_
      refine KS.p (.bool false) ?_
      refine KS.k ?_
      refine KS.k ?_
      refine KS.k ?_
      refine KS.k ?_
      refine KS.p (.bool false) ?_
      refine KS.p (.bool false) ?_
      refine Kw.fin (Kw.then_normal (wp_ret ?_))
      exact bodyPost_ret (v := .bool false) (by kernel_rfl) (by kernel_rfl) ⟨congrArg (fun b => Ending.returned (Value.bool b)) (show (false) = mayB a n from by unfold mayB; simp only [decide_eq_true_eq, decide_eq_false_iff_not] at *; first | (symm; rw [decide_eq_false_iff_not]; omega) | (rw [decide_eq_decide]; omega)), M0.drop⟩
  · skip
    refine Kw.pure (.bool false) (by kernel_rfl) (Kw.eqv (v := .bool ((decide (n ≥ (0 : Int))))) (by kernel_rfl) (congrArg Value.bool h1)) ?_
    refine KS.k ?_
    refine KS.k ?_
    refine KS.p (.bool false) ?_
    refine KS.p (.bool false) ?_
    refine KS.k ?_
    refine KS.k ?_
    refine KS.p (.bool false) ?_
    refine KS.p (.bool false) ?_
    refine KS.k ?_
    refine KS.k ?_
    refine KS.k ?_
    refine KS.k ?_
    refine KS.p (.bool false) ?_
    refine KS.p (.bool false) ?_
    refine Kw.fin (Kw.then_normal (wp_ret ?_))
    exact bodyPost_ret (v := .bool false) (by kernel_rfl) (by kernel_rfl) ⟨congrArg (fun b => Ending.returned (Value.bool b)) (show (false) = mayB a n from by unfold mayB; simp only [decide_eq_true_eq, decide_eq_false_iff_not] at *; first | (symm; rw [decide_eq_false_iff_not]; omega) | (rw [decide_eq_decide]; omega)), M0.drop⟩
theorem rget_c (x : BitVec 64) (a n : Int) (W : World) : Calls Try.prog 40 #[.int .u64 (u x), .int .i64 a, .int .i64 n] W fun e W' => e = .returned (.int .u64 (u (getI x a n))) ∧ Kw.Mem [] W W' [] := by
  refine calls_of_wp Try.func40 rfl ?_
  have M0 : Kw.Mem [] W W [] := Kw.Mem.start _ _
  refine Kw.to (b := ⟨#[.int .u64 (u x), .int .i64 a, .int .i64 n, undef, undef, undef, undef, undef, undef, undef, undef, undef, undef, undef, undef, undef, undef, undef, undef, undef, undef, undef, undef, undef, undef, undef, undef, undef, undef, undef, undef, undef], []⟩) (by kernel_rfl) ?_
  refine wp_seq (Kw.region ?_)
  refine KS.p (.int .u64 0) ?_
  refine KS.n4 ?_
  refine KS.p (.int .u64 0) ?_
  refine KS.n5 ?_
  refine KS.p (.int .i64 0) ?_
  refine Kw.fin (Kw.then_normal (wp_block ?_))
  refine Kw.to (b := ⟨#[.int .u64 (u x), .int .i64 a, .int .i64 n, undef, undef, undef, .int .u64 0, .int .u64 0, .int .i64 0, undef, undef, undef, undef, undef, undef, undef, undef, undef, undef, undef, undef, undef, undef, undef, undef, undef, undef, undef, undef, undef, undef, undef], []⟩) (by kernel_rfl) ?_
  refine wp_loop (fun ac wc => ∃ (i : Nat) (y : BitVec 64), (i ≤ n.toNat) ∧ (Upto y (fun t => x.getLsbD (a.toNat + t)) i) ∧ (0 < i → mayB a n = true) ∧ KwJ.Fr [9, 10, 11, 12, 13, 14, 15, 16, 17, 18, 19, 20, 21, 22, 23, 24, 25, 26, 27, 28, 29, 30] (fun y1 => ⟨#[.int .u64 (u x), .int .i64 a, .int .i64 n, undef, undef, undef, .int .u64 0, .int .u64 (u y), .int .i64 ((i : Nat) : Int), y1 0, y1 1, y1 2, y1 3, y1 4, y1 5, y1 6, y1 7, y1 8, y1 9, y1 10, y1 11, y1 12, y1 13, y1 14, y1 15, y1 16, y1 17, y1 18, y1 19, y1 20, y1 21, undef], []⟩) ac ∧ Kw.Mem [] W wc []) (fun ac _ => n.toNat - (intOf (ac.tmps.getD 8 undef)).toNat) ⟨0, 0#64, by omega, upto_zero _, fun h => absurd h (by omega), KwJ.mkFr (by kernel_rfl), M0⟩ (fun ac w1 hI => ?_)
  obtain ⟨i, y, hi, hy, hm, hF1, M1⟩ := hI
  obtain ⟨y1, rfl⟩ := KwJ.fr hF1
  refine wp_seq (wp_seq (Kw.region ?_))
  refine KS.p (.int .i64 a) ?_
  refine KS.p (.int .i64 n) ?_
  refine KS.c (.bool (mayB a n)) 59 #[.int .i64 a, .int .i64 n] M1 (rmay_c a n w1) fun w2 M2 => ?_
  rcases Bool.eq_false_or_eq_true ((mayB a n)) with h3 | h3
  · skip
    refine Kw.pure (.bool true) (by kernel_rfl) (Kw.eqv (v := .bool ((mayB a n))) (by kernel_rfl) (congrArg Value.bool h3)) ?_
    refine KS.p (.int .i64 ((i : Nat) : Int)) ?_
    refine KS.p (.int .i64 n) ?_
    refine KS.p (.bool (decide (((i : Nat) : Int) < n))) ?_
    refine KS.p (.bool (decide (((i : Nat) : Int) < n))) ?_
    refine KS.n2 ?_
    refine wp_cond_split (t := (decide (((i : Nat) : Int) < n))) (by kernel_rfl) (fun h4 => ?_) (fun h4 => ?_)
    · skip
      refine wp_skip (Kw.then_normal (wp_seq (wp_block (Kw.region ?_))))
      refine KS.p (.int .u64 (u y)) ?_
      refine KS.p (.int .u64 (u x)) ?_
      refine KS.p (.int .i64 a) ?_
      refine KS.p (.int .i64 ((i : Nat) : Int)) ?_
      refine Kw.pure (.int .i64 (((a.toNat + i) : Nat) : Int)) (by kernel_rfl) (Kw.eqv (v := .int .i64 (IntKind.i64.wrap (a + ((i : Nat) : Int)))) (by kernel_rfl) (congrArg (Value.int .i64) (by have := mayB_iff h3; simp only [decide_eq_true_eq] at *; rw [IntWalk.i64_in _ (by omega)]; omega))) ?_
      refine Kw.pure (.int .u64 (((a.toNat + i) : Nat) : Int)) (by kernel_rfl) (Kw.eqv (v := .int .u64 (IntKind.u64.wrap (((a.toNat + i) : Nat) : Int))) (by kernel_rfl) (congrArg (Value.int .u64) (wrapu_nat _ (by have := mayB_iff h3; simp only [decide_eq_true_eq] at *; omega)))) ?_
      refine KS.s (Canon.opS .shr 22 (.tmp 20) (.tmp 24) (.int .u64 (u x)) (.int .u64 (((a.toNat + i) : Nat) : Int))) (.int .u64 (u (x >>> (a.toNat + i)))) (shru_run _ _ _ x (a.toNat + i) w2) ?_
      refine Kw.pure (.int .u64 (u ((x >>> (a.toNat + i)) &&& 1#64))) (by kernel_rfl) (Kw.eqv (v := .int .u64 (Go.bits .and .u64 ((u (x >>> (a.toNat + i)))) ((1 : Int)))) (by kernel_rfl) (congrArg (Value.int .u64) (bits_and (x >>> (a.toNat + i)) 1#64))) ?_
      refine KS.p (.int .i64 ((i : Nat) : Int)) ?_
      refine Kw.pure (.int .u64 ((i : Nat) : Int)) (by kernel_rfl) (Kw.eqv (v := .int .u64 (IntKind.u64.wrap ((i : Nat) : Int))) (by kernel_rfl) (congrArg (Value.int .u64) (wrapu_nat _ (by have := mayB_iff h3; simp only [decide_eq_true_eq] at *; omega)))) ?_
      refine KS.s (Canon.opS .shl 22 (.tmp 26) (.tmp 28) (.int .u64 (u ((x >>> (a.toNat + i)) &&& 1#64))) (.int .u64 ((i : Nat) : Int))) (.int .u64 (u (((x >>> (a.toNat + i)) &&& 1#64) <<< i))) (shlu_run _ _ _ ((x >>> (a.toNat + i)) &&& 1#64) i w2) ?_
      refine Kw.pure (.int .u64 (u (y ||| (((x >>> (a.toNat + i)) &&& 1#64) <<< i)))) (by kernel_rfl) (Kw.eqv (v := .int .u64 (Go.bits .or .u64 ((u y)) ((u (((x >>> (a.toNat + i)) &&& 1#64) <<< i))))) (by kernel_rfl) (congrArg (Value.int .u64) (bits_or y (((x >>> (a.toNat + i)) &&& 1#64) <<< i)))) ?_
      refine KS.p (.int .u64 (u (y ||| (((x >>> (a.toNat + i)) &&& 1#64) <<< i)))) ?_
      refine Kw.fin (Kw.block_normal (Kw.then_normal (Kw.region ?_)))
      refine KS.p (.int .i64 ((i : Nat) : Int)) ?_
      refine Kw.pure (.int .i64 ((i + 1 : Nat) : Int)) (by kernel_rfl) (Kw.eqv (v := .int .i64 (IntKind.i64.wrap (((i : Nat) : Int) + (1 : Int)))) (by kernel_rfl) (congrArg (Value.int .i64) (by have := mayB_iff h3; simp only [decide_eq_true_eq] at *; rw [IntWalk.i64_in _ (by omega)]; rfl))) ?_
      refine KS.p (.int .i64 ((i + 1 : Nat) : Int)) ?_
      refine KS.n2 ?_
      exact ⟨⟨i + 1, y ||| (((x >>> (a.toNat + i)) &&& 1#64) <<< i), by simp only [decide_eq_true_eq] at *; omega, upto_step hy (by have := mayB_iff h3; simp only [decide_eq_true_eq] at *; omega) x (a.toNat + i) rfl, fun _ => h3, KwJ.mkFr (by kernel_rfl), M2⟩, Kw.mlt (n.toNat - (i + 1)) (n.toNat - i) (by kernel_rfl) (by kernel_rfl) (by simp only [decide_eq_true_eq] at *; omega)⟩
    · skip
      refine wp_exit (Kw.then_exit (Kw.then_exit (Kw.block_hit (Kw.then_normal (wp_seq (Kw.region ?_))))))
      refine KS.p (.int .u64 (u y)) ?_
      refine KS.p (.int .u64 (u y)) ?_
      refine Kw.fin (Kw.then_normal (wp_ret ?_))
      exact bodyPost_ret (v := .int .u64 (u y)) (by kernel_rfl) (by kernel_rfl) ⟨congrArg (fun b => Ending.returned (Value.int .u64 b)) (show u y = u (getI x a n) from by have h0 := mayB_iff h3; simp only [decide_eq_false_iff_not] at *; obtain rfl : i = n.toNat := (by omega); unfold getI; rw [if_pos h3]; exact congrArg u (upto_eq hy fun t ht => get_bit _ _ _ _ (by omega))), M2.drop⟩
  · skip
    refine Kw.pure (.bool false) (by kernel_rfl) (Kw.eqv (v := .bool ((mayB a n))) (by kernel_rfl) (congrArg Value.bool h3)) ?_
    refine KS.k ?_
    refine KS.k ?_
    refine KS.k ?_
    refine KS.p (.bool false) ?_
    refine KS.n2 ?_
    refine wp_cond_false (by kernel_rfl) ?_
    refine wp_exit (Kw.then_exit (Kw.then_exit (Kw.block_hit (Kw.then_normal (wp_seq (Kw.region ?_))))))
    refine KS.p (.int .u64 (u y)) ?_
    refine KS.p (.int .u64 (u y)) ?_
    refine Kw.fin (Kw.then_normal (wp_ret ?_))
    exact bodyPost_ret (v := .int .u64 (u y)) (by kernel_rfl) (by kernel_rfl) ⟨congrArg (fun b => Ending.returned (Value.int .u64 b)) (show u y = u (getI x a n) from by unfold getI; rw [if_neg (by rw [h3]; exact Bool.false_ne_true)]; exact congrArg u (upto_eq hy fun t ht => by rw [show i = 0 by (rcases Nat.eq_zero_or_pos i with h | h; exact h; exact absurd (hm h) (by rw [h3]; exact Bool.false_ne_true))]; simp)), M2.drop⟩
theorem rsign_c (x : BitVec 64) (n : Int) (W : World) : Calls Try.prog 37 #[.int .u64 (u x), .int .i64 n] W fun e W' => e = .returned (.int .u64 (u (signI x n))) ∧ Kw.Mem [] W W' [] := by
  refine calls_of_wp Try.func37 rfl ?_
  have M0 : Kw.Mem [] W W [] := Kw.Mem.start _ _
  refine Kw.to (b := ⟨#[.int .u64 (u x), .int .i64 n, undef, undef, undef, undef, undef, undef, undef, undef, undef, undef, undef, undef, undef, undef, undef, undef, undef, undef, undef, undef, undef, undef, undef, undef, undef, undef, undef, undef, undef, undef, undef, undef, undef], []⟩) (by kernel_rfl) ?_
  refine wp_seq (Kw.region ?_)
  refine KS.p (.int .u64 0) ?_
  refine KS.n5 ?_
  refine KS.p (.int .i64 n) ?_
  refine KS.p (.bool (decide (n < (1 : Int)))) ?_
  rcases Bool.eq_false_or_eq_true ((decide (n < (1 : Int)))) with h1 | h1
  · skip
    refine Kw.pure (.bool true) (by kernel_rfl) (Kw.eqv (v := .bool ((decide (n < (1 : Int))))) (by kernel_rfl) (congrArg Value.bool h1)) ?_
    refine KS.k ?_
    refine KS.k ?_
    refine KS.p (.bool true) ?_
    refine KS.n2 ?_
    refine wp_cond_true (by kernel_rfl) ?_
    refine wp_seq (Kw.region ?_)
    refine KS.p (.int .u64 0) ?_
    refine Kw.fin (Kw.then_normal (wp_ret (Kw.then_ret ?_)))
    exact bodyPost_ret (v := .int .u64 0) (by kernel_rfl) (by kernel_rfl) ⟨congrArg (fun b => Ending.returned (Value.int .u64 b)) (show 0 = u (signI x n) from by simp only [decide_eq_true_eq, decide_eq_false_iff_not] at *; unfold signI; rw [if_neg (by omega)]; rfl), M0.drop⟩
  · skip
    refine Kw.pure (.bool false) (by kernel_rfl) (Kw.eqv (v := .bool ((decide (n < (1 : Int))))) (by kernel_rfl) (congrArg Value.bool h1)) ?_
    refine KS.p (.int .i64 n) ?_
    refine KS.p (.bool (decide (n > (64 : Int)))) ?_
    refine KS.p (.bool (decide (n > (64 : Int)))) ?_
    refine KS.n2 ?_
    refine wp_cond_split (t := (decide (n > (64 : Int)))) (by kernel_rfl) (fun h2 => ?_) (fun h2 => ?_)
    · skip
      refine wp_seq (Kw.region ?_)
      refine KS.p (.int .u64 0) ?_
      refine Kw.fin (Kw.then_normal (wp_ret (Kw.then_ret ?_)))
      exact bodyPost_ret (v := .int .u64 0) (by kernel_rfl) (by kernel_rfl) ⟨congrArg (fun b => Ending.returned (Value.int .u64 b)) (show 0 = u (signI x n) from by simp only [decide_eq_true_eq, decide_eq_false_iff_not] at *; unfold signI; rw [if_neg (by omega)]; rfl), M0.drop⟩
    · skip
      refine wp_skip (Kw.then_normal (wp_seq (Kw.region ?_)))
      refine KS.p (.int .u64 0) ?_
      refine KS.n5 ?_
      refine KS.p (.int .i64 0) ?_
      refine Kw.fin (Kw.then_normal (wp_block ?_))
      refine Kw.to (b := ⟨#[.int .u64 (u x), .int .i64 n, undef, undef, .int .u64 0, .int .u64 0, .int .i64 0, undef, .int .i64 n, .bool (decide (n < (1 : Int))), .bool false, .int .i64 n, .bool (decide (n > (64 : Int))), .bool (decide (n > (64 : Int))), undef, undef, undef, undef, undef, undef, undef, undef, undef, undef, undef, undef, undef, undef, undef, undef, undef, undef, undef, undef, undef], []⟩) (by kernel_rfl) ?_
      refine wp_loop (fun ac wc => ∃ (i : Nat) (y : BitVec 64), (i ≤ 64) ∧ (Upto y (fun t => if t < n.toNat then x.getLsbD t else x.getLsbD (n.toNat - 1)) i) ∧ KwJ.Fr [7, 14, 15, 16, 17, 18, 19, 20, 21, 22, 23, 24, 25, 26, 27, 28, 29, 30, 31, 32, 33] (fun y3 => ⟨#[.int .u64 (u x), .int .i64 n, undef, undef, .int .u64 0, .int .u64 (u y), .int .i64 ((i : Nat) : Int), y3 0, .int .i64 n, .bool (decide (n < (1 : Int))), .bool false, .int .i64 n, .bool (decide (n > (64 : Int))), .bool (decide (n > (64 : Int))), y3 1, y3 2, y3 3, y3 4, y3 5, y3 6, y3 7, y3 8, y3 9, y3 10, y3 11, y3 12, y3 13, y3 14, y3 15, y3 16, y3 17, y3 18, y3 19, y3 20, undef], []⟩) ac ∧ Kw.Mem [] W wc []) (fun ac _ => 64 - (intOf (ac.tmps.getD 6 undef)).toNat) ⟨0, 0#64, by omega, upto_zero _, KwJ.mkFr (by kernel_rfl), M0⟩ (fun ac w3 hI => ?_)
      obtain ⟨i, y, hi, hy, hF3, M3⟩ := hI
      obtain ⟨y3, rfl⟩ := KwJ.fr hF3
      refine wp_seq (wp_seq (Kw.region ?_))
      refine KS.p (.int .i64 ((i : Nat) : Int)) ?_
      refine KS.p (.bool (decide (((i : Nat) : Int) < (64 : Int)))) ?_
      refine KS.n2 ?_
      refine wp_cond_split (t := (decide (((i : Nat) : Int) < (64 : Int)))) (by kernel_rfl) (fun h4 => ?_) (fun h4 => ?_)
      · skip
        refine wp_skip (Kw.then_normal (wp_seq (wp_block (wp_seq (Kw.region ?_)))))
        refine KS.p (.int .i64 ((i : Nat) : Int)) ?_
        refine KS.p (.int .i64 ((i : Nat) : Int)) ?_
        refine KS.n5 ?_
        refine KS.p (.int .i64 ((i : Nat) : Int)) ?_
        refine KS.p (.int .i64 n) ?_
        refine KS.p (.bool (decide (((i : Nat) : Int) ≥ n))) ?_
        refine KS.n2 ?_
        refine wp_cond_split (t := (decide (((i : Nat) : Int) ≥ n))) (by kernel_rfl) (fun h5 => ?_) (fun h5 => ?_)
        · skip
          refine Kw.region ?_
          refine KS.p (.int .i64 n) ?_
          refine Kw.pure (.int .i64 ((n.toNat - 1 : Nat) : Int)) (by kernel_rfl) (Kw.eqv (v := .int .i64 (IntKind.i64.wrap (n - (1 : Int)))) (by kernel_rfl) (congrArg (Value.int .i64) (by simp only [decide_eq_true_eq, decide_eq_false_iff_not] at *; rw [IntWalk.i64_in _ (by omega)]; omega))) ?_
          refine KS.p (.int .i64 ((n.toNat - 1 : Nat) : Int)) ?_
          refine Kw.fin (Kw.then_normal (Kw.region ?_))
          refine KS.p (.int .u64 (u y)) ?_
          refine KS.p (.int .u64 (u x)) ?_
          refine KS.p (.int .i64 ((n.toNat - 1 : Nat) : Int)) ?_
          refine Kw.pure (.int .u64 (((n.toNat - 1) : Nat) : Int)) (by kernel_rfl) (Kw.eqv (v := .int .u64 (IntKind.u64.wrap ((n.toNat - 1 : Nat) : Int))) (by kernel_rfl) (congrArg (Value.int .u64) (wrapu_nat _ (by simp only [decide_eq_true_eq, decide_eq_false_iff_not] at *; omega)))) ?_
          refine KS.s (Canon.opS .shr 22 (.tmp 25) (.tmp 27) (.int .u64 (u x)) (.int .u64 (((n.toNat - 1) : Nat) : Int))) (.int .u64 (u (x >>> (n.toNat - 1)))) (shru_run _ _ _ x (n.toNat - 1) w3) ?_
          refine Kw.pure (.int .u64 (u ((x >>> (n.toNat - 1)) &&& 1#64))) (by kernel_rfl) (Kw.eqv (v := .int .u64 (Go.bits .and .u64 ((u (x >>> (n.toNat - 1)))) ((1 : Int)))) (by kernel_rfl) (congrArg (Value.int .u64) (bits_and (x >>> (n.toNat - 1)) 1#64))) ?_
          refine KS.p (.int .i64 ((i : Nat) : Int)) ?_
          refine Kw.pure (.int .u64 ((i : Nat) : Int)) (by kernel_rfl) (Kw.eqv (v := .int .u64 (IntKind.u64.wrap ((i : Nat) : Int))) (by kernel_rfl) (congrArg (Value.int .u64) (wrapu_nat _ (by simp only [decide_eq_true_eq, decide_eq_false_iff_not] at *; omega)))) ?_
          refine KS.s (Canon.opS .shl 22 (.tmp 29) (.tmp 31) (.int .u64 (u ((x >>> (n.toNat - 1)) &&& 1#64))) (.int .u64 ((i : Nat) : Int))) (.int .u64 (u (((x >>> (n.toNat - 1)) &&& 1#64) <<< i))) (shlu_run _ _ _ ((x >>> (n.toNat - 1)) &&& 1#64) i w3) ?_
          refine Kw.pure (.int .u64 (u (y ||| (((x >>> (n.toNat - 1)) &&& 1#64) <<< i)))) (by kernel_rfl) (Kw.eqv (v := .int .u64 (Go.bits .or .u64 ((u y)) ((u (((x >>> (n.toNat - 1)) &&& 1#64) <<< i))))) (by kernel_rfl) (congrArg (Value.int .u64) (bits_or y (((x >>> (n.toNat - 1)) &&& 1#64) <<< i)))) ?_
          refine KS.p (.int .u64 (u (y ||| (((x >>> (n.toNat - 1)) &&& 1#64) <<< i)))) ?_
          refine Kw.fin (Kw.block_normal (Kw.then_normal (Kw.region ?_)))
          refine KS.p (.int .i64 ((i : Nat) : Int)) ?_
          refine Kw.pure (.int .i64 ((i + 1 : Nat) : Int)) (by kernel_rfl) (Kw.eqv (v := .int .i64 (IntKind.i64.wrap (((i : Nat) : Int) + (1 : Int)))) (by kernel_rfl) (congrArg (Value.int .i64) (by simp only [decide_eq_true_eq] at *; rw [IntWalk.i64_in _ (by omega)]; rfl))) ?_
          refine KS.p (.int .i64 ((i + 1 : Nat) : Int)) ?_
          refine KS.n2 ?_
          exact ⟨⟨i + 1, y ||| (((x >>> (n.toNat - 1)) &&& 1#64) <<< i), by simp only [decide_eq_true_eq] at *; omega, upto_step hy (by simp only [decide_eq_true_eq, decide_eq_false_iff_not] at *; omega) x _ (by simp only [decide_eq_true_eq, decide_eq_false_iff_not] at *; rw [if_neg (by omega)]), KwJ.mkFr (by kernel_rfl), M3⟩, Kw.mlt (64 - (i + 1)) (64 - i) (by kernel_rfl) (by kernel_rfl) (by simp only [decide_eq_true_eq] at *; omega)⟩
        · skip
          refine wp_skip (Kw.then_normal (Kw.region ?_))
          refine KS.p (.int .u64 (u y)) ?_
          refine KS.p (.int .u64 (u x)) ?_
          refine KS.p (.int .i64 ((i : Nat) : Int)) ?_
          refine Kw.pure (.int .u64 ((i : Nat) : Int)) (by kernel_rfl) (Kw.eqv (v := .int .u64 (IntKind.u64.wrap ((i : Nat) : Int))) (by kernel_rfl) (congrArg (Value.int .u64) (wrapu_nat _ (by simp only [decide_eq_true_eq, decide_eq_false_iff_not] at *; omega)))) ?_
          refine KS.s (Canon.opS .shr 22 (.tmp 25) (.tmp 27) (.int .u64 (u x)) (.int .u64 ((i : Nat) : Int))) (.int .u64 (u (x >>> i))) (shru_run _ _ _ x i w3) ?_
          refine Kw.pure (.int .u64 (u ((x >>> i) &&& 1#64))) (by kernel_rfl) (Kw.eqv (v := .int .u64 (Go.bits .and .u64 ((u (x >>> i))) ((1 : Int)))) (by kernel_rfl) (congrArg (Value.int .u64) (bits_and (x >>> i) 1#64))) ?_
          refine KS.p (.int .i64 ((i : Nat) : Int)) ?_
          refine Kw.pure (.int .u64 ((i : Nat) : Int)) (by kernel_rfl) (Kw.eqv (v := .int .u64 (IntKind.u64.wrap ((i : Nat) : Int))) (by kernel_rfl) (congrArg (Value.int .u64) (wrapu_nat _ (by simp only [decide_eq_true_eq, decide_eq_false_iff_not] at *; omega)))) ?_
          refine KS.s (Canon.opS .shl 22 (.tmp 29) (.tmp 31) (.int .u64 (u ((x >>> i) &&& 1#64))) (.int .u64 ((i : Nat) : Int))) (.int .u64 (u (((x >>> i) &&& 1#64) <<< i))) (shlu_run _ _ _ ((x >>> i) &&& 1#64) i w3) ?_
          refine Kw.pure (.int .u64 (u (y ||| (((x >>> i) &&& 1#64) <<< i)))) (by kernel_rfl) (Kw.eqv (v := .int .u64 (Go.bits .or .u64 ((u y)) ((u (((x >>> i) &&& 1#64) <<< i))))) (by kernel_rfl) (congrArg (Value.int .u64) (bits_or y (((x >>> i) &&& 1#64) <<< i)))) ?_
          refine KS.p (.int .u64 (u (y ||| (((x >>> i) &&& 1#64) <<< i)))) ?_
          refine Kw.fin (Kw.block_normal (Kw.then_normal (Kw.region ?_)))
          refine KS.p (.int .i64 ((i : Nat) : Int)) ?_
          refine Kw.pure (.int .i64 ((i + 1 : Nat) : Int)) (by kernel_rfl) (Kw.eqv (v := .int .i64 (IntKind.i64.wrap (((i : Nat) : Int) + (1 : Int)))) (by kernel_rfl) (congrArg (Value.int .i64) (by simp only [decide_eq_true_eq] at *; rw [IntWalk.i64_in _ (by omega)]; rfl))) ?_
          refine KS.p (.int .i64 ((i + 1 : Nat) : Int)) ?_
          refine KS.n2 ?_
          exact ⟨⟨i + 1, y ||| (((x >>> i) &&& 1#64) <<< i), by simp only [decide_eq_true_eq] at *; omega, upto_step hy (by simp only [decide_eq_true_eq, decide_eq_false_iff_not] at *; omega) x _ (by simp only [decide_eq_true_eq, decide_eq_false_iff_not] at *; rw [if_pos (by omega)]), KwJ.mkFr (by kernel_rfl), M3⟩, Kw.mlt (64 - (i + 1)) (64 - i) (by kernel_rfl) (by kernel_rfl) (by simp only [decide_eq_true_eq] at *; omega)⟩
      · skip
        refine wp_exit (Kw.then_exit (Kw.then_exit (Kw.block_hit (Kw.then_normal (wp_seq (Kw.region ?_))))))
        refine KS.p (.int .u64 (u y)) ?_
        refine KS.p (.int .u64 (u y)) ?_
        refine Kw.fin (Kw.then_normal (wp_ret ?_))
        exact bodyPost_ret (v := .int .u64 (u y)) (by kernel_rfl) (by kernel_rfl) ⟨congrArg (fun b => Ending.returned (Value.int .u64 b)) (show (u y) = u (signI x n) from by simp only [decide_eq_true_eq, decide_eq_false_iff_not] at *; obtain rfl : i = 64 := (by omega); unfold signI; rw [if_pos (by omega)]; exact congrArg u (upto_eq hy fun t ht => by rw [sign_bit _ _ _ (by omega) (by omega) ht, decide_eq_true ht, Bool.true_and])), M3.drop⟩
theorem get_low (x : BitVec 64) (n : Int) (h : 1 ≤ n ∧ n ≤ 64) : getI x 0 n = x &&& mask n.toNat := by
  unfold getI
  rw [if_pos (show mayB 0 n = true from decide_eq_true (by omega))]
  unfold Bits.get
  rw [show (0 : Int).toNat = 0 from rfl, BitVec.ushiftRight_zero]
theorem rfits_c (x : BitVec 64) (n : Int) (sg : Bool) (W : World) : Calls Try.prog 52 #[.int .i64 (s x), .int .i64 n, .bool sg] W fun e W' => e = .returned (.bool (fitsI x n sg)) ∧ Kw.Mem [] W W' [] := by
  refine calls_of_wp Try.func52 rfl ?_
  have M0 : Kw.Mem [] W W [] := Kw.Mem.start _ _
  refine Kw.to (b := ⟨#[.int .i64 (s x), .int .i64 n, .bool sg, undef, undef, undef, undef, undef, undef, undef, undef, undef, undef, undef, undef, undef, undef, undef, undef, undef, undef, undef, undef, undef, undef, undef, undef, undef, undef, undef, undef, undef], []⟩) (by kernel_rfl) ?_
  refine wp_seq (Kw.region ?_)
  refine KS.p (.bool false) ?_
  refine KS.n5 ?_
  refine KS.p (.int .i64 n) ?_
  refine KS.p (.bool (decide (n < (1 : Int)))) ?_
  rcases Bool.eq_false_or_eq_true ((decide (n < (1 : Int)))) with h1 | h1
  · skip
    refine Kw.pure (.bool true) (by kernel_rfl) (Kw.eqv (v := .bool ((decide (n < (1 : Int))))) (by kernel_rfl) (congrArg Value.bool h1)) ?_
    refine KS.k ?_
    refine KS.k ?_
    refine KS.p (.bool true) ?_
    refine KS.n2 ?_
    refine wp_cond_true (by kernel_rfl) ?_
    refine wp_seq (Kw.region ?_)
    refine KS.p (.bool false) ?_
    refine Kw.fin (Kw.then_normal (wp_ret (Kw.then_ret ?_)))
    exact bodyPost_ret (v := .bool false) (by kernel_rfl) (by kernel_rfl) ⟨congrArg (fun b => Ending.returned (Value.bool b)) (show (false) = fitsI x n sg from by simp only [decide_eq_true_eq, decide_eq_false_iff_not] at *; first | (unfold fitsI; rw [if_neg (by omega)]) | (have hw : 1 ≤ n ∧ n ≤ 64 := (by omega); have es : signI x n = sign x n.toNat := (by unfold signI; rw [if_pos hw]); have eg : getI x 0 n = x &&& mask n.toNat := get_low x n hw; unfold fitsI; rw [if_pos hw]; first | (subst sg; rw [if_pos rfl, ueq_bv, es]) | (subst sg; rw [if_neg (by decide), ueq_bv, eg, decide_eq_true (show 0 ≤ s x by omega), Bool.true_and, decide_eq_decide]; exact low_eq x n.toNat (by omega)) | (subst sg; rw [if_neg (by decide), decide_eq_false (by omega), Bool.false_and]))), M0.drop⟩
  · skip
    refine Kw.pure (.bool false) (by kernel_rfl) (Kw.eqv (v := .bool ((decide (n < (1 : Int))))) (by kernel_rfl) (congrArg Value.bool h1)) ?_
    refine KS.p (.int .i64 n) ?_
    refine KS.p (.bool (decide (n > (64 : Int)))) ?_
    refine KS.p (.bool (decide (n > (64 : Int)))) ?_
    refine KS.n2 ?_
    refine wp_cond_split (t := (decide (n > (64 : Int)))) (by kernel_rfl) (fun h2 => ?_) (fun h2 => ?_)
    · skip
      refine wp_seq (Kw.region ?_)
      refine KS.p (.bool false) ?_
      refine Kw.fin (Kw.then_normal (wp_ret (Kw.then_ret ?_)))
      exact bodyPost_ret (v := .bool false) (by kernel_rfl) (by kernel_rfl) ⟨congrArg (fun b => Ending.returned (Value.bool b)) (show (false) = fitsI x n sg from by simp only [decide_eq_true_eq, decide_eq_false_iff_not] at *; first | (unfold fitsI; rw [if_neg (by omega)]) | (have hw : 1 ≤ n ∧ n ≤ 64 := (by omega); have es : signI x n = sign x n.toNat := (by unfold signI; rw [if_pos hw]); have eg : getI x 0 n = x &&& mask n.toNat := get_low x n hw; unfold fitsI; rw [if_pos hw]; first | (subst sg; rw [if_pos rfl, ueq_bv, es]) | (subst sg; rw [if_neg (by decide), ueq_bv, eg, decide_eq_true (show 0 ≤ s x by omega), Bool.true_and, decide_eq_decide]; exact low_eq x n.toNat (by omega)) | (subst sg; rw [if_neg (by decide), decide_eq_false (by omega), Bool.false_and]))), M0.drop⟩
    · skip
      refine wp_skip (Kw.then_normal (wp_seq (wp_seq (Kw.region ?_))))
      refine KS.p (.bool sg) ?_
      refine KS.n2 ?_
      refine wp_cond_split (t := sg) (by kernel_rfl) (fun h3 => ?_) (fun h3 => ?_)
      · skip
        refine wp_seq (Kw.region ?_)
        refine KS.p (.int .i64 (s x)) ?_
        refine Kw.pure (.int .u64 (u x)) (by kernel_rfl) (Kw.eqv (v := .int .u64 (IntKind.u64.wrap (s x))) (by kernel_rfl) (congrArg (Value.int .u64) (wrap_s x))) ?_
        refine KS.p (.int .i64 n) ?_
        refine KS.c (.int .u64 (u (signI x n))) 37 #[.int .u64 (u x), .int .i64 n] M0 (rsign_c x n W) fun w4 M4 => ?_
        refine KS.p (.int .i64 (s x)) ?_
        refine Kw.pure (.int .u64 (u x)) (by kernel_rfl) (Kw.eqv (v := .int .u64 (IntKind.u64.wrap (s x))) (by kernel_rfl) (congrArg (Value.int .u64) (wrap_s x))) ?_
        refine KS.p (.bool ((u (signI x n)) == (u x))) ?_
        refine KS.p (.bool ((u (signI x n)) == (u x))) ?_
        refine Kw.fin (Kw.then_normal (wp_ret (Kw.then_ret ?_)))
        exact bodyPost_ret (v := .bool ((u (signI x n)) == (u x))) (by kernel_rfl) (by kernel_rfl) ⟨congrArg (fun b => Ending.returned (Value.bool b)) (show (((u (signI x n)) == (u x))) = fitsI x n sg from by simp only [decide_eq_true_eq, decide_eq_false_iff_not] at *; first | (unfold fitsI; rw [if_neg (by omega)]) | (have hw : 1 ≤ n ∧ n ≤ 64 := (by omega); have es : signI x n = sign x n.toNat := (by unfold signI; rw [if_pos hw]); have eg : getI x 0 n = x &&& mask n.toNat := get_low x n hw; unfold fitsI; rw [if_pos hw]; first | (subst sg; rw [if_pos rfl, ueq_bv, es]) | (subst sg; rw [if_neg (by decide), ueq_bv, eg, decide_eq_true (show 0 ≤ s x by omega), Bool.true_and, decide_eq_decide]; exact low_eq x n.toNat (by omega)) | (subst sg; rw [if_neg (by decide), decide_eq_false (by omega), Bool.false_and]))), M4.drop⟩
      · skip
        refine wp_skip (Kw.then_normal (wp_seq (Kw.region ?_)))
        refine KS.p (.int .i64 (s x)) ?_
        refine KS.p (.bool (decide ((s x) ≥ (0 : Int)))) ?_
        rcases Bool.eq_false_or_eq_true ((decide ((s x) ≥ (0 : Int)))) with h5 | h5
        · skip
          refine Kw.pure (.bool true) (by kernel_rfl) (Kw.eqv (v := .bool ((decide ((s x) ≥ (0 : Int))))) (by kernel_rfl) (congrArg Value.bool h5)) ?_
          refine KS.p (.int .i64 (s x)) ?_
          refine Kw.pure (.int .u64 (u x)) (by kernel_rfl) (Kw.eqv (v := .int .u64 (IntKind.u64.wrap (s x))) (by kernel_rfl) (congrArg (Value.int .u64) (wrap_s x))) ?_
          refine KS.p (.int .i64 n) ?_
          refine KS.c (.int .u64 (u (getI x 0 n))) 40 #[.int .u64 (u x), .int .i64 0, .int .i64 n] M0 (rget_c x 0 n W) fun w6 M6 => ?_
          refine KS.p (.int .i64 (s x)) ?_
          refine Kw.pure (.int .u64 (u x)) (by kernel_rfl) (Kw.eqv (v := .int .u64 (IntKind.u64.wrap (s x))) (by kernel_rfl) (congrArg (Value.int .u64) (wrap_s x))) ?_
          refine KS.p (.bool ((u (getI x 0 n)) == (u x))) ?_
          refine KS.p (.bool ((u (getI x 0 n)) == (u x))) ?_
          refine KS.p (.bool ((u (getI x 0 n)) == (u x))) ?_
          refine Kw.fin (Kw.then_normal (wp_ret ?_))
          exact bodyPost_ret (v := .bool ((u (getI x 0 n)) == (u x))) (by kernel_rfl) (by kernel_rfl) ⟨congrArg (fun b => Ending.returned (Value.bool b)) (show (((u (getI x 0 n)) == (u x))) = fitsI x n sg from by simp only [decide_eq_true_eq, decide_eq_false_iff_not] at *; first | (unfold fitsI; rw [if_neg (by omega)]) | (have hw : 1 ≤ n ∧ n ≤ 64 := (by omega); have es : signI x n = sign x n.toNat := (by unfold signI; rw [if_pos hw]); have eg : getI x 0 n = x &&& mask n.toNat := get_low x n hw; unfold fitsI; rw [if_pos hw]; first | (subst sg; rw [if_pos rfl, ueq_bv, es]) | (subst sg; rw [if_neg (by decide), ueq_bv, eg, decide_eq_true (show 0 ≤ s x by omega), Bool.true_and, decide_eq_decide]; exact low_eq x n.toNat (by omega)) | (subst sg; rw [if_neg (by decide), decide_eq_false (by omega), Bool.false_and]))), M6.drop⟩
        · skip
          refine Kw.pure (.bool false) (by kernel_rfl) (Kw.eqv (v := .bool ((decide ((s x) ≥ (0 : Int))))) (by kernel_rfl) (congrArg Value.bool h5)) ?_
          refine KS.k ?_
          refine KS.k ?_
          refine KS.k ?_
          refine KS.k ?_
          refine KS.k ?_
          refine KS.k ?_
          refine KS.k ?_
          refine KS.p (.bool false) ?_
          refine KS.p (.bool false) ?_
          refine Kw.fin (Kw.then_normal (wp_ret ?_))
          exact bodyPost_ret (v := .bool false) (by kernel_rfl) (by kernel_rfl) ⟨congrArg (fun b => Ending.returned (Value.bool b)) (show (false) = fitsI x n sg from by simp only [decide_eq_true_eq, decide_eq_false_iff_not] at *; first | (unfold fitsI; rw [if_neg (by omega)]) | (have hw : 1 ≤ n ∧ n ≤ 64 := (by omega); have es : signI x n = sign x n.toNat := (by unfold signI; rw [if_pos hw]); have eg : getI x 0 n = x &&& mask n.toNat := get_low x n hw; unfold fitsI; rw [if_pos hw]; first | (subst sg; rw [if_pos rfl, ueq_bv, es]) | (subst sg; rw [if_neg (by decide), ueq_bv, eg, decide_eq_true (show 0 ≤ s x by omega), Bool.true_and, decide_eq_decide]; exact low_eq x n.toNat (by omega)) | (subst sg; rw [if_neg (by decide), decide_eq_false (by omega), Bool.false_and]))), M0.drop⟩
end Go.Proofs.Ytpmpibcfmejbfaa.Inst
