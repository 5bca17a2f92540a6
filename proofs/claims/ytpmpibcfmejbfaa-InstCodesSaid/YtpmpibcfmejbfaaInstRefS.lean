/- The word of an instruction by the reference: what its function answers. No condition. -/
import Derived.Test.YtpmpibcfmejbfaaInstRows32
import Derived.Test.YtpmpibcfmejbfaaInstRefC
import Derived.Test.YtpmpibcfmejbfaaInstXor
import Derived.Test.YtpmpibcfmejbfaaSl
namespace Go.Proofs.Ytpmpibcfmejbfaa.Inst
open Go Go.RowKit Go.Proofs.Ytpmpibcfmejbfaa.Bits
attribute [local irreducible] Go.wpList
set_option linter.unusedVariables false
set_option linter.unusedSimpArgs false
theorem wrap32_add (x y : BitVec 64) : IntKind.u32.wrap (u x + u y) = u ((x + y) &&& 4294967295#64) := by
  rw [← wrap32_u]
  unfold u
  rw [BitVec.toNat_add]
  simp [IntKind.wrap, IntKind.bits, IntKind.signed]
theorem wrap64_shl (x : BitVec 64) (n : Nat) (hn : n < 64) : IntKind.u64.wrap (u x * 2 ^ n) = u (x <<< n) := by
  have h := shl_u x (n : Int)
  unfold shl at h
  rw [Int.toNat_natCast, Nat.min_eq_left (show n ≤ IntKind.u64.bits from by have : IntKind.u64.bits = 64 := rfl; omega)] at h
  exact h
theorem low_mod (x : BitVec 64) (z : Nat) (hz : z ≤ 62) : (Int.tmod (s x) (2 ^ z) == 0) = (u (x &&& maskI (z : Int)) == 0) := by
  have em : maskI (z : Int) = mask z := by unfold maskI; rw [Int.toNat_natCast, Nat.min_eq_left (by omega)]
  have hp : (0 : Int) < 2 ^ z := Int.pow_pos (by omega)
  have hq : ((2 ^ z : Nat) : Int) = 2 ^ z := by simp
  rw [Bool.eq_iff_iff, beq_iff_eq, beq_iff_eq, em]
  unfold u
  rw [BitVec.toNat_and, mask_toNat z (by omega), Nat.and_two_pow_sub_one_eq_mod]
  have d : ∃ c : Int, s x = (x.toNat : Int) + c * 2 ^ z := by
    have e64 : (18446744073709551616 : Int) = 2 ^ (64 - z) * 2 ^ z := by rw [← Int.pow_add]; rw [show 64 - z + z = 64 by omega]; rfl
    unfold s
    rw [BitVec.toInt_eq_toNat_bmod, Int.bmod_def]
    have hx := x.isLt
    have em2 : (x.toNat : Int) % ((2 ^ 64 : Nat) : Int) = (x.toNat : Int) := by omega
    rw [em2]
    split
    · exact ⟨0, by simp⟩
    · refine ⟨-(2 ^ (64 - z)), ?_⟩
      rw [Int.neg_mul, ← e64]; rfl
  obtain ⟨c, hc⟩ := d
  rw [hc]
  constructor
  · intro h
    have h := Int.dvd_of_tmod_eq_zero h
    have h : ((2 ^ z : Nat) : Int) ∣ (x.toNat : Int) := by
      rw [hq]; exact (Int.dvd_add_left (Int.dvd_mul_left _ _)).1 h
    have h := Int.natCast_dvd_natCast.1 h
    rw [Nat.mod_eq_zero_of_dvd h]; rfl
  · intro h
    have h : x.toNat % 2 ^ z = 0 := by omega
    apply Int.tmod_eq_zero_of_dvd
    apply (Int.dvd_add_left (Int.dvd_mul_left _ _)).2
    rw [← hq]
    exact Int.natCast_dvd_natCast.2 (Nat.dvd_of_mod_eq_zero h)
theorem fits5 (x : BitVec 64) : fitsI x 5 false = (decide (0 ≤ s x) && decide (s x ≤ 31)) := by
  unfold fitsI
  rw [if_pos (by omega), if_neg (by decide)]
  by_cases h : 0 ≤ s x
  · rw [decide_eq_true h, Bool.true_and, Bool.true_and, decide_eq_decide, ← low_eq x (5 : Int).toNat (by decide)]
    have hx : s x = (x.toNat : Int) := by
      unfold s at *
      rw [BitVec.toInt_eq_toNat_bmod, Int.bmod_def] at *
      have := x.isLt
      split at h <;> split <;> omega
    rw [hx]
    constructor
    · intro e
      have e := congrArg BitVec.toNat e
      rw [BitVec.toNat_and, mask_toNat _ (by decide), Nat.and_two_pow_sub_one_eq_mod, show (5 : Int).toNat = 5 from rfl] at e
      omega
    · intro e
      apply BitVec.eq_of_toNat_eq
      rw [BitVec.toNat_and, mask_toNat _ (by decide), Nat.and_two_pow_sub_one_eq_mod, show (5 : Int).toNat = 5 from rfl]
      omega
  · rw [decide_eq_false h, Bool.false_and, Bool.false_and]
theorem reg_c (x : BitVec 64) (W : World) : Calls Try.prog 50 #[.int .i64 (s x)] W fun e W' => e = .returned (.bool (fitsI x 5 false)) ∧ Kw.Mem [] W W' [] := by
  refine calls_of_wp Try.func50 rfl ?_
  have M0 : Kw.Mem [] W W [] := Kw.Mem.start _ _
  refine Kw.to (b := ⟨#[.int .i64 (s x), undef, undef, undef, undef, undef, undef, undef, undef], []⟩) (by kernel_rfl) ?_
  refine wp_seq ?_
  refine Kw.region ?_
  refine Kw.pure (.bool false) (by kernel_rfl) (by kernel_rfl) ?_
  refine Kw.fin ?_
  refine Kw.then_normal ?_
  refine wp_seq ?_
  refine Kw.region ?_
  refine Kw.pure (.int .i64 (s x)) (by kernel_rfl) (by kernel_rfl) ?_
  refine Kw.pure (.bool (decide ((s x) ≥ (0 : Int)))) (by kernel_rfl) (by kernel_rfl) ?_
  rcases Bool.eq_false_or_eq_true ((decide ((s x) ≥ (0 : Int)))) with h1 | h1
  · skip
    refine Kw.pure (.bool true) (by kernel_rfl) (Kw.eqv (v := .bool ((decide ((s x) ≥ (0 : Int))))) (by kernel_rfl) (congrArg Value.bool h1)) ?_
    refine Kw.pure (.int .i64 (s x)) (by kernel_rfl) (by kernel_rfl) ?_
    refine Kw.pure (.bool (decide ((s x) ≤ (31 : Int)))) (by kernel_rfl) (by kernel_rfl) ?_
    refine Kw.pure (.bool (decide ((s x) ≤ (31 : Int)))) (by kernel_rfl) (by kernel_rfl) ?_
    refine Kw.pure (.bool (decide ((s x) ≤ (31 : Int)))) (by kernel_rfl) (by kernel_rfl) ?_
    refine Kw.fin ?_
    refine Kw.then_normal ?_
    refine wp_ret ?_
    exact bodyPost_ret (v := .bool (decide ((s x) ≤ (31 : Int)))) (by kernel_rfl) (by kernel_rfl) ⟨congrArg (fun b => Ending.returned (Value.bool b)) (show ((decide ((s x) ≤ (31 : Int)))) = fitsI x 5 false from by rw [fits5]; simp only [decide_eq_true_eq, decide_eq_false_iff_not] at *; first | (rw [decide_eq_true (show 0 ≤ s x by omega), Bool.true_and]) | (rw [decide_eq_false (by omega), Bool.false_and])), M0.drop⟩
  · skip
    refine Kw.pure (.bool false) (by kernel_rfl) (Kw.eqv (v := .bool ((decide ((s x) ≥ (0 : Int))))) (by kernel_rfl) (congrArg Value.bool h1)) ?_
    refine Kw.skip (by kernel_rfl) ?_
    refine Kw.skip (by kernel_rfl) ?_
    refine Kw.pure (.bool false) (by kernel_rfl) (by kernel_rfl) ?_
    refine Kw.pure (.bool false) (by kernel_rfl) (by kernel_rfl) ?_
    refine Kw.fin ?_
    refine Kw.then_normal ?_
    refine wp_ret ?_
    exact bodyPost_ret (v := .bool false) (by kernel_rfl) (by kernel_rfl) ⟨congrArg (fun b => Ending.returned (Value.bool b)) (show (false) = fitsI x 5 false from by rw [fits5]; simp only [decide_eq_true_eq, decide_eq_false_iff_not] at *; first | (rw [decide_eq_true (show 0 ≤ s x by omega), Bool.true_and]) | (rw [decide_eq_false (by omega), Bool.false_and])), M0.drop⟩
theorem bits_n (x : BitVec 64) (a n : Int) (t : Nat) (ht : t ≤ 128) (W : World) : Calls Try.prog 51 #[.int .i64 (s x), .int .i64 a, .int .i64 n, .int .i64 (t : Int)] W fun e W' => e = .returned (.int .u32 (u ((getI x a n <<< t) &&& 4294967295#64))) ∧ Kw.Mem [] W W' [] := by
  refine calls_of_wp Try.func51 rfl ?_
  have M0 : Kw.Mem [] W W [] := Kw.Mem.start _ _
  refine Kw.to (b := ⟨#[.int .i64 (s x), .int .i64 a, .int .i64 n, .int .i64 (t : Int), undef, undef, undef, undef, undef, undef, undef, undef, undef, undef, undef, undef, undef, undef], []⟩) (by kernel_rfl) ?_
  refine wp_seq ?_
  refine Kw.region ?_
  refine Kw.pure (.int .u32 0) (by kernel_rfl) (by kernel_rfl) ?_
  refine Kw.fin ?_
  refine Kw.then_normal ?_
  refine wp_seq ?_
  refine Kw.region ?_
  refine Kw.pure (.int .i64 (s x)) (by kernel_rfl) (by kernel_rfl) ?_
  refine Kw.pure (.int .u64 (u x)) (by kernel_rfl) (Kw.eqv (v := .int .u64 (IntKind.u64.wrap (s x))) (by kernel_rfl) (congrArg (Value.int .u64) (wrap_s x))) ?_
  refine Kw.pure (.int .i64 a) (by kernel_rfl) (by kernel_rfl) ?_
  refine Kw.pure (.int .i64 n) (by kernel_rfl) (by kernel_rfl) ?_
  refine Kw.call (.int .u64 (u (getI x a n))) 40 #[.int .u64 (u x), .int .i64 a, .int .i64 n] M0 (by kernel_rfl) (by kernel_rfl) (rget_c x a n W) fun w1 M1 => ?_
  refine Kw.pure (.int .i64 (t : Int)) (by kernel_rfl) (by kernel_rfl) ?_
  refine Kw.pure (.int .u64 (t : Int)) (by kernel_rfl) (Kw.eqv (v := .int .u64 (IntKind.u64.wrap (t : Int))) (by kernel_rfl) (congrArg (Value.int .u64) (wrapu_nat t ht))) ?_
  refine Kw.pureS (Canon.opS .shl 22 (.tmp 13) (.tmp 15) (.int .u64 (u (getI x a n))) (.int .u64 (t : Int))) (.int .u64 (u (getI x a n <<< t))) (by kernel_rfl) (by kernel_rfl) (shlu_run _ _ _ (getI x a n) t w1) ?_
  refine Kw.pure (.int .u32 (u ((getI x a n <<< t) &&& 4294967295#64))) (by kernel_rfl) (Kw.eqv (v := .int .u32 (IntKind.u32.wrap (u (getI x a n <<< t)))) (by kernel_rfl) (congrArg (Value.int .u32) (wrap32_u (getI x a n <<< t)))) ?_
  refine Kw.pure (.int .u32 (u ((getI x a n <<< t) &&& 4294967295#64))) (by kernel_rfl) (by kernel_rfl) ?_
  refine Kw.fin ?_
  refine Kw.then_normal ?_
  refine wp_ret ?_
  exact bodyPost_ret (v := .int .u32 (u ((getI x a n <<< t) &&& 4294967295#64))) (by kernel_rfl) (by kernel_rfl) ⟨rfl, M1.drop⟩
theorem add_ml (x y : BitVec 64) : ((x &&& 4294967295#64) + y) &&& 4294967295#64 = (x + y) &&& 4294967295#64 := by
  apply u_inj
  rw [← wrap32_u, ← wrap32_u]
  unfold u
  rw [BitVec.toNat_add, BitVec.toNat_add, show (x &&& 4294967295#64) = x &&& mask 32 from rfl, BitVec.toNat_and, mask_toNat 32 (by omega), Nat.and_two_pow_sub_one_eq_mod, wrap32_mod, wrap32_mod]
  omega
theorem add_mr (x y : BitVec 64) : (x + (y &&& 4294967295#64)) &&& 4294967295#64 = (x + y) &&& 4294967295#64 := by
  rw [BitVec.add_comm, add_ml, BitVec.add_comm]
theorem shl_m (x : BitVec 64) (n : Nat) : (((x &&& 4294967295#64) <<< n) &&& 4294967295#64) = (x <<< n) &&& 4294967295#64 := by
  have h : (4294967295#64) = mask 32 := by decide
  apply Bits.ext; intro i hi
  rw [h]
  simp only [BitVec.getLsbD_and, BitVec.getLsbD_shiftLeft, mask_bit 32 _ (by omega)]
  by_cases h1 : i < n
  · simp [h1]
  · by_cases h2 : i < 32
    · have : i - n < 32 := by omega
      simp [h1, h2, this]
    · simp [h2]
theorem add_or (x y : BitVec 64) (h : ∀ i, i < 64 → (x.getLsbD i && y.getLsbD i) = false) : x + y = x ||| y := by
  apply BitVec.add_eq_or_of_and_eq_zero
  apply Bits.ext; intro i hi
  rw [BitVec.getLsbD_and, h i hi, BitVec.getLsbD_zero]
theorem put_sum (F v : BitVec 64) (a n : Int) (h : 0 ≤ a ∧ 0 ≤ n ∧ a + n ≤ 64) (hF : ∀ i, a.toNat ≤ i → i < a.toNat + n.toNat → F.getLsbD i = false) : putI F a n v = F + ((v &&& mask n.toNat) <<< a.toNat) := by
  have hb : ∀ i, i < 64 → ((v &&& mask n.toNat) <<< a.toNat).getLsbD i = if a.toNat ≤ i ∧ i < a.toNat + n.toNat then v.getLsbD (i - a.toNat) else false := by
    intro i hi
    rw [BitVec.getLsbD_shiftLeft, BitVec.getLsbD_and, mask_bit _ _ (by omega)]
    by_cases h1 : i < a.toNat
    · rw [if_neg (by omega)]; simp [h1]
    · by_cases h2 : i < a.toNat + n.toNat
      · have : i - a.toNat < n.toNat := by omega
        rw [if_pos (by omega)]; simp [h1, hi, this]
      · have : ¬ i - a.toNat < n.toNat := by omega
        rw [if_neg (by omega)]; simp [this]
  rw [add_or]
  · apply Bits.ext; intro i hi
    rw [putI_bit _ _ _ _ _ h hi, BitVec.getLsbD_or, hb i hi]
    split
    · rw [hF i (by omega) (by omega), Bool.false_or]
    · rw [Bool.or_false]
  · intro i hi
    rw [hb i hi]
    split
    · rw [hF i (by omega) (by omega), Bool.false_and]
    · rw [Bool.and_false]
theorem get_mask (x : BitVec 64) (a n : Int) (h : 0 ≤ a ∧ 0 ≤ n ∧ a + n ≤ 64) : getI x a n &&& mask n.toNat = getI x a n := by
  apply Bits.ext; intro i hi
  rw [BitVec.getLsbD_and, mask_bit _ _ (by omega), getI_bit _ _ _ _ h]
  by_cases h1 : i < n.toNat <;> simp [h1]
theorem ret2 {a a' : Int} {b b' : Bool} (h : a = a') (g : b = b') : Ending.returned (.tuple #[.int .u32 a, .bool b]) = Ending.returned (.tuple #[.int .u32 a', .bool b']) := by rw [h, g]
theorem low0 (y : BitVec 64) : (u (y &&& maskI 0) == 0) = true := by
  rw [show maskI 0 = 0#64 from by decide, BitVec.and_zero]; rfl
theorem and_eq {a b : BitVec 64} (h : a = b) : a &&& 4294967295#64 = b &&& 4294967295#64 := by rw [h]
theorem cd_low (k : Nat) (hk : k < 69) : cd k &&& 127#64 = cd k := by revert k; decide +kernel
theorem ff_low (k : Nat) (hk : k < 69) : ff k &&& 7#64 = ff k := by revert k; decide +kernel
theorem ot_low (k : Nat) (hk : k < 69) : ot k &&& 127#64 = ot k ∧ ot k &&& 63#64 = ot k ∧ ot k &&& 4095#64 = ot k := by revert k; decide +kernel
theorem ot_low5 (k : Nat) (hk : k < 69) (hs : sh k = 71) : ot k &&& 31#64 = ot k := by
  have h : ∀ k, k < 69 → (sh k = 71 → ot k &&& 31#64 = ot k) := by decide +kernel
  exact h k hk hs
theorem sum_R (k : Nat) (hk : k < 69) (hs : sh k = 82) (rd rs1 rs2 imm : BitVec 64) : u (((((((((((cd k) + (((ff k) <<< 12) &&& 4294967295#64)) &&& 4294967295#64) + ((((rd &&& 31#64) &&& 4294967295#64) <<< 7) &&& 4294967295#64)) &&& 4294967295#64) + ((((rs1 &&& 31#64) &&& 4294967295#64) <<< 15) &&& 4294967295#64)) &&& 4294967295#64) + ((((rs2 &&& 31#64) &&& 4294967295#64) <<< 20) &&& 4294967295#64)) &&& 4294967295#64) + (((ot k) <<< 25) &&& 4294967295#64)) &&& 4294967295#64) = u (word_R k rd rs1 rs2 imm &&& 4294967295#64) := by
  apply congrArg u
  simp only [add_ml, add_mr, shl_m]
  unfold word_R
  rw [put_sum _ _ _ _ (by omega) (fun i h1 h2 => by (repeat (rw [putI_bit _ _ _ _ _ (by omega) (by omega), if_neg (by omega)])); exact BitVec.getLsbD_zero), put_sum _ _ _ _ (by omega) (fun i h1 h2 => by (repeat (rw [putI_bit _ _ _ _ _ (by omega) (by omega), if_neg (by omega)])); exact BitVec.getLsbD_zero), put_sum _ _ _ _ (by omega) (fun i h1 h2 => by (repeat (rw [putI_bit _ _ _ _ _ (by omega) (by omega), if_neg (by omega)])); exact BitVec.getLsbD_zero), put_sum _ _ _ _ (by omega) (fun i h1 h2 => by (repeat (rw [putI_bit _ _ _ _ _ (by omega) (by omega), if_neg (by omega)])); exact BitVec.getLsbD_zero), put_sum _ _ _ _ (by omega) (fun i h1 h2 => by (repeat (rw [putI_bit _ _ _ _ _ (by omega) (by omega), if_neg (by omega)])); exact BitVec.getLsbD_zero), put_sum _ _ _ _ (by omega) (fun i h1 h2 => by (repeat (rw [putI_bit _ _ _ _ _ (by omega) (by omega), if_neg (by omega)])); exact BitVec.getLsbD_zero)]
  have e1 := cd_low k hk
  have e2 := ff_low k hk
  have e3 := ot_low k hk
  simp only [Int.reduceToNat, show mask 1 = 1#64 from by decide, show mask 3 = 7#64 from by decide, show mask 4 = 15#64 from by decide, show mask 5 = 31#64 from by decide, show mask 6 = 63#64 from by decide, show mask 7 = 127#64 from by decide, show mask 8 = 255#64 from by decide, show mask 10 = 1023#64 from by decide, show mask 12 = 4095#64 from by decide, show mask 13 = 8191#64 from by decide, show mask 20 = 1048575#64 from by decide] at *
  simp only [e1, e2, e3.1, e3.2.1, e3.2.2, BitVec.zero_add, BitVec.shiftLeft_zero, BitVec.add_zero, BitVec.zero_and, BitVec.zero_shiftLeft]
  refine and_eq ?_
  generalize cd k = a0
  generalize ff k <<< 12 = a1
  generalize (rd &&& 31#64) <<< 7 = a2
  generalize (rs1 &&& 31#64) <<< 15 = a3
  generalize (rs2 &&& 31#64) <<< 20 = a4
  generalize ot k <<< 25 = a5
  ac_rfl
theorem sum_G (k : Nat) (hk : k < 69) (hs : sh k = 71) (rd rs1 rs2 imm : BitVec 64) : u (((((((((((cd k) + (((ff k) <<< 12) &&& 4294967295#64)) &&& 4294967295#64) + ((((rd &&& 31#64) &&& 4294967295#64) <<< 7) &&& 4294967295#64)) &&& 4294967295#64) + ((((rs1 &&& 31#64) &&& 4294967295#64) <<< 15) &&& 4294967295#64)) &&& 4294967295#64) + (((ot k) <<< 20) &&& 4294967295#64)) &&& 4294967295#64) + 4261412864#64) &&& 4294967295#64) = u (word_G k rd rs1 rs2 imm &&& 4294967295#64) := by
  apply congrArg u
  simp only [add_ml, add_mr, shl_m]
  unfold word_G
  rw [put_sum _ _ _ _ (by omega) (fun i h1 h2 => by (repeat (rw [putI_bit _ _ _ _ _ (by omega) (by omega), if_neg (by omega)])); exact BitVec.getLsbD_zero), put_sum _ _ _ _ (by omega) (fun i h1 h2 => by (repeat (rw [putI_bit _ _ _ _ _ (by omega) (by omega), if_neg (by omega)])); exact BitVec.getLsbD_zero), put_sum _ _ _ _ (by omega) (fun i h1 h2 => by (repeat (rw [putI_bit _ _ _ _ _ (by omega) (by omega), if_neg (by omega)])); exact BitVec.getLsbD_zero), put_sum _ _ _ _ (by omega) (fun i h1 h2 => by (repeat (rw [putI_bit _ _ _ _ _ (by omega) (by omega), if_neg (by omega)])); exact BitVec.getLsbD_zero), put_sum _ _ _ _ (by omega) (fun i h1 h2 => by (repeat (rw [putI_bit _ _ _ _ _ (by omega) (by omega), if_neg (by omega)])); exact BitVec.getLsbD_zero), put_sum _ _ _ _ (by omega) (fun i h1 h2 => by (repeat (rw [putI_bit _ _ _ _ _ (by omega) (by omega), if_neg (by omega)])); exact BitVec.getLsbD_zero)]
  have e1 := cd_low k hk
  have e2 := ff_low k hk
  have e3 := ot_low k hk
  have e4 := ot_low5 k hk hs
  simp only [Int.reduceToNat, show mask 1 = 1#64 from by decide, show mask 3 = 7#64 from by decide, show mask 4 = 15#64 from by decide, show mask 5 = 31#64 from by decide, show mask 6 = 63#64 from by decide, show mask 7 = 127#64 from by decide, show mask 8 = 255#64 from by decide, show mask 10 = 1023#64 from by decide, show mask 12 = 4095#64 from by decide, show mask 13 = 8191#64 from by decide, show mask 20 = 1048575#64 from by decide] at *
  simp only [e1, e2, e3.1, e3.2.1, e3.2.2, e4, BitVec.zero_add, BitVec.shiftLeft_zero, BitVec.add_zero, BitVec.zero_and, BitVec.zero_shiftLeft, show (127#64 &&& 127#64) <<< 25 = 4261412864#64 from by decide]
  refine and_eq ?_
  generalize cd k = a0
  generalize ff k <<< 12 = a1
  generalize (rd &&& 31#64) <<< 7 = a2
  generalize (rs1 &&& 31#64) <<< 15 = a3
  generalize ot k <<< 20 = a4
  ac_rfl
theorem sum_I (k : Nat) (hk : k < 69) (hs : sh k = 73) (rd rs1 rs2 imm : BitVec 64) : u (((((((((cd k) + (((ff k) <<< 12) &&& 4294967295#64)) &&& 4294967295#64) + ((((rd &&& 31#64) &&& 4294967295#64) <<< 7) &&& 4294967295#64)) &&& 4294967295#64) + ((((rs1 &&& 31#64) &&& 4294967295#64) <<< 15) &&& 4294967295#64)) &&& 4294967295#64) + ((getI imm 0 12 <<< 20) &&& 4294967295#64)) &&& 4294967295#64) = u (word_I k rd rs1 rs2 imm &&& 4294967295#64) := by
  apply congrArg u
  simp only [add_ml, add_mr, shl_m]
  unfold word_I
  rw [put_sum _ _ _ _ (by omega) (fun i h1 h2 => by (repeat (rw [putI_bit _ _ _ _ _ (by omega) (by omega), if_neg (by omega)])); exact BitVec.getLsbD_zero), put_sum _ _ _ _ (by omega) (fun i h1 h2 => by (repeat (rw [putI_bit _ _ _ _ _ (by omega) (by omega), if_neg (by omega)])); exact BitVec.getLsbD_zero), put_sum _ _ _ _ (by omega) (fun i h1 h2 => by (repeat (rw [putI_bit _ _ _ _ _ (by omega) (by omega), if_neg (by omega)])); exact BitVec.getLsbD_zero), put_sum _ _ _ _ (by omega) (fun i h1 h2 => by (repeat (rw [putI_bit _ _ _ _ _ (by omega) (by omega), if_neg (by omega)])); exact BitVec.getLsbD_zero), put_sum _ _ _ _ (by omega) (fun i h1 h2 => by (repeat (rw [putI_bit _ _ _ _ _ (by omega) (by omega), if_neg (by omega)])); exact BitVec.getLsbD_zero)]
  have e1 := cd_low k hk
  have e2 := ff_low k hk
  have e3 := ot_low k hk
  have g0 := get_mask imm 0 12 (by omega)
  simp only [Int.reduceToNat, show mask 1 = 1#64 from by decide, show mask 3 = 7#64 from by decide, show mask 4 = 15#64 from by decide, show mask 5 = 31#64 from by decide, show mask 6 = 63#64 from by decide, show mask 7 = 127#64 from by decide, show mask 8 = 255#64 from by decide, show mask 10 = 1023#64 from by decide, show mask 12 = 4095#64 from by decide, show mask 13 = 8191#64 from by decide, show mask 20 = 1048575#64 from by decide] at *
  simp only [e1, e2, e3.1, e3.2.1, e3.2.2, g0, BitVec.zero_add, BitVec.shiftLeft_zero, BitVec.add_zero, BitVec.zero_and, BitVec.zero_shiftLeft]
  refine and_eq ?_
  generalize cd k = a0
  generalize ff k <<< 12 = a1
  generalize (rd &&& 31#64) <<< 7 = a2
  generalize (rs1 &&& 31#64) <<< 15 = a3
  generalize getI imm 0 12 <<< 20 = a4
  ac_rfl
theorem sum_C (k : Nat) (hk : k < 69) (hs : sh k = 67) (rd rs1 rs2 imm : BitVec 64) : u (((((((((cd k) + (((ff k) <<< 12) &&& 4294967295#64)) &&& 4294967295#64) + ((((rd &&& 31#64) &&& 4294967295#64) <<< 7) &&& 4294967295#64)) &&& 4294967295#64) + ((((rs1 &&& 31#64) &&& 4294967295#64) <<< 15) &&& 4294967295#64)) &&& 4294967295#64) + ((getI imm 0 12 <<< 20) &&& 4294967295#64)) &&& 4294967295#64) = u (word_C k rd rs1 rs2 imm &&& 4294967295#64) := by
  apply congrArg u
  simp only [add_ml, add_mr, shl_m]
  unfold word_C
  rw [put_sum _ _ _ _ (by omega) (fun i h1 h2 => by (repeat (rw [putI_bit _ _ _ _ _ (by omega) (by omega), if_neg (by omega)])); exact BitVec.getLsbD_zero), put_sum _ _ _ _ (by omega) (fun i h1 h2 => by (repeat (rw [putI_bit _ _ _ _ _ (by omega) (by omega), if_neg (by omega)])); exact BitVec.getLsbD_zero), put_sum _ _ _ _ (by omega) (fun i h1 h2 => by (repeat (rw [putI_bit _ _ _ _ _ (by omega) (by omega), if_neg (by omega)])); exact BitVec.getLsbD_zero), put_sum _ _ _ _ (by omega) (fun i h1 h2 => by (repeat (rw [putI_bit _ _ _ _ _ (by omega) (by omega), if_neg (by omega)])); exact BitVec.getLsbD_zero), put_sum _ _ _ _ (by omega) (fun i h1 h2 => by (repeat (rw [putI_bit _ _ _ _ _ (by omega) (by omega), if_neg (by omega)])); exact BitVec.getLsbD_zero)]
  have e1 := cd_low k hk
  have e2 := ff_low k hk
  have e3 := ot_low k hk
  have g0 := get_mask imm 0 12 (by omega)
  simp only [Int.reduceToNat, show mask 1 = 1#64 from by decide, show mask 3 = 7#64 from by decide, show mask 4 = 15#64 from by decide, show mask 5 = 31#64 from by decide, show mask 6 = 63#64 from by decide, show mask 7 = 127#64 from by decide, show mask 8 = 255#64 from by decide, show mask 10 = 1023#64 from by decide, show mask 12 = 4095#64 from by decide, show mask 13 = 8191#64 from by decide, show mask 20 = 1048575#64 from by decide] at *
  simp only [e1, e2, e3.1, e3.2.1, e3.2.2, g0, BitVec.zero_add, BitVec.shiftLeft_zero, BitVec.add_zero, BitVec.zero_and, BitVec.zero_shiftLeft]
  refine and_eq ?_
  generalize cd k = a0
  generalize ff k <<< 12 = a1
  generalize (rd &&& 31#64) <<< 7 = a2
  generalize (rs1 &&& 31#64) <<< 15 = a3
  generalize getI imm 0 12 <<< 20 = a4
  ac_rfl
theorem sum_H (k : Nat) (hk : k < 69) (hs : sh k = 72) (rd rs1 rs2 imm : BitVec 64) : u (((((((((((cd k) + (((ff k) <<< 12) &&& 4294967295#64)) &&& 4294967295#64) + ((((rd &&& 31#64) &&& 4294967295#64) <<< 7) &&& 4294967295#64)) &&& 4294967295#64) + ((((rs1 &&& 31#64) &&& 4294967295#64) <<< 15) &&& 4294967295#64)) &&& 4294967295#64) + ((getI imm 0 6 <<< 20) &&& 4294967295#64)) &&& 4294967295#64) + (((ot k) <<< 26) &&& 4294967295#64)) &&& 4294967295#64) = u (word_H k rd rs1 rs2 imm &&& 4294967295#64) := by
  apply congrArg u
  simp only [add_ml, add_mr, shl_m]
  unfold word_H
  rw [put_sum _ _ _ _ (by omega) (fun i h1 h2 => by (repeat (rw [putI_bit _ _ _ _ _ (by omega) (by omega), if_neg (by omega)])); exact BitVec.getLsbD_zero), put_sum _ _ _ _ (by omega) (fun i h1 h2 => by (repeat (rw [putI_bit _ _ _ _ _ (by omega) (by omega), if_neg (by omega)])); exact BitVec.getLsbD_zero), put_sum _ _ _ _ (by omega) (fun i h1 h2 => by (repeat (rw [putI_bit _ _ _ _ _ (by omega) (by omega), if_neg (by omega)])); exact BitVec.getLsbD_zero), put_sum _ _ _ _ (by omega) (fun i h1 h2 => by (repeat (rw [putI_bit _ _ _ _ _ (by omega) (by omega), if_neg (by omega)])); exact BitVec.getLsbD_zero), put_sum _ _ _ _ (by omega) (fun i h1 h2 => by (repeat (rw [putI_bit _ _ _ _ _ (by omega) (by omega), if_neg (by omega)])); exact BitVec.getLsbD_zero), put_sum _ _ _ _ (by omega) (fun i h1 h2 => by (repeat (rw [putI_bit _ _ _ _ _ (by omega) (by omega), if_neg (by omega)])); exact BitVec.getLsbD_zero)]
  have e1 := cd_low k hk
  have e2 := ff_low k hk
  have e3 := ot_low k hk
  have g0 := get_mask imm 0 6 (by omega)
  simp only [Int.reduceToNat, show mask 1 = 1#64 from by decide, show mask 3 = 7#64 from by decide, show mask 4 = 15#64 from by decide, show mask 5 = 31#64 from by decide, show mask 6 = 63#64 from by decide, show mask 7 = 127#64 from by decide, show mask 8 = 255#64 from by decide, show mask 10 = 1023#64 from by decide, show mask 12 = 4095#64 from by decide, show mask 13 = 8191#64 from by decide, show mask 20 = 1048575#64 from by decide] at *
  simp only [e1, e2, e3.1, e3.2.1, e3.2.2, g0, BitVec.zero_add, BitVec.shiftLeft_zero, BitVec.add_zero, BitVec.zero_and, BitVec.zero_shiftLeft]
  refine and_eq ?_
  generalize cd k = a0
  generalize ff k <<< 12 = a1
  generalize (rd &&& 31#64) <<< 7 = a2
  generalize (rs1 &&& 31#64) <<< 15 = a3
  generalize ot k <<< 26 = a4
  generalize getI imm 0 6 <<< 20 = a5
  ac_rfl
theorem sum_S (k : Nat) (hk : k < 69) (hs : sh k = 83) (rd rs1 rs2 imm : BitVec 64) : u (((((((((((cd k) + (((ff k) <<< 12) &&& 4294967295#64)) &&& 4294967295#64) + ((((rs1 &&& 31#64) &&& 4294967295#64) <<< 15) &&& 4294967295#64)) &&& 4294967295#64) + ((((rs2 &&& 31#64) &&& 4294967295#64) <<< 20) &&& 4294967295#64)) &&& 4294967295#64) + ((getI imm 0 5 <<< 7) &&& 4294967295#64)) &&& 4294967295#64) + ((getI imm 5 7 <<< 25) &&& 4294967295#64)) &&& 4294967295#64) = u (word_S k rd rs1 rs2 imm &&& 4294967295#64) := by
  apply congrArg u
  simp only [add_ml, add_mr, shl_m]
  unfold word_S
  rw [put_sum _ _ _ _ (by omega) (fun i h1 h2 => by (repeat (rw [putI_bit _ _ _ _ _ (by omega) (by omega), if_neg (by omega)])); exact BitVec.getLsbD_zero), put_sum _ _ _ _ (by omega) (fun i h1 h2 => by (repeat (rw [putI_bit _ _ _ _ _ (by omega) (by omega), if_neg (by omega)])); exact BitVec.getLsbD_zero), put_sum _ _ _ _ (by omega) (fun i h1 h2 => by (repeat (rw [putI_bit _ _ _ _ _ (by omega) (by omega), if_neg (by omega)])); exact BitVec.getLsbD_zero), put_sum _ _ _ _ (by omega) (fun i h1 h2 => by (repeat (rw [putI_bit _ _ _ _ _ (by omega) (by omega), if_neg (by omega)])); exact BitVec.getLsbD_zero), put_sum _ _ _ _ (by omega) (fun i h1 h2 => by (repeat (rw [putI_bit _ _ _ _ _ (by omega) (by omega), if_neg (by omega)])); exact BitVec.getLsbD_zero), put_sum _ _ _ _ (by omega) (fun i h1 h2 => by (repeat (rw [putI_bit _ _ _ _ _ (by omega) (by omega), if_neg (by omega)])); exact BitVec.getLsbD_zero)]
  have e1 := cd_low k hk
  have e2 := ff_low k hk
  have e3 := ot_low k hk
  have g0 := get_mask imm 0 5 (by omega)
  have g1 := get_mask imm 5 7 (by omega)
  simp only [Int.reduceToNat, show mask 1 = 1#64 from by decide, show mask 3 = 7#64 from by decide, show mask 4 = 15#64 from by decide, show mask 5 = 31#64 from by decide, show mask 6 = 63#64 from by decide, show mask 7 = 127#64 from by decide, show mask 8 = 255#64 from by decide, show mask 10 = 1023#64 from by decide, show mask 12 = 4095#64 from by decide, show mask 13 = 8191#64 from by decide, show mask 20 = 1048575#64 from by decide] at *
  simp only [e1, e2, e3.1, e3.2.1, e3.2.2, g0, g1, BitVec.zero_add, BitVec.shiftLeft_zero, BitVec.add_zero, BitVec.zero_and, BitVec.zero_shiftLeft]
  refine and_eq ?_
  generalize cd k = a0
  generalize ff k <<< 12 = a1
  generalize (rs1 &&& 31#64) <<< 15 = a2
  generalize (rs2 &&& 31#64) <<< 20 = a3
  generalize getI imm 0 5 <<< 7 = a4
  generalize getI imm 5 7 <<< 25 = a5
  ac_rfl
theorem sum_B (k : Nat) (hk : k < 69) (hs : sh k = 66) (rd rs1 rs2 imm : BitVec 64) : u (((((((((((((((cd k) + (((ff k) <<< 12) &&& 4294967295#64)) &&& 4294967295#64) + ((((rs1 &&& 31#64) &&& 4294967295#64) <<< 15) &&& 4294967295#64)) &&& 4294967295#64) + ((((rs2 &&& 31#64) &&& 4294967295#64) <<< 20) &&& 4294967295#64)) &&& 4294967295#64) + ((getI imm 1 4 <<< 8) &&& 4294967295#64)) &&& 4294967295#64) + ((getI imm 5 6 <<< 25) &&& 4294967295#64)) &&& 4294967295#64) + ((getI imm 11 1 <<< 7) &&& 4294967295#64)) &&& 4294967295#64) + ((getI imm 12 1 <<< 31) &&& 4294967295#64)) &&& 4294967295#64) = u (word_B k rd rs1 rs2 imm &&& 4294967295#64) := by
  apply congrArg u
  simp only [add_ml, add_mr, shl_m]
  unfold word_B
  rw [put_sum _ _ _ _ (by omega) (fun i h1 h2 => by (repeat (rw [putI_bit _ _ _ _ _ (by omega) (by omega), if_neg (by omega)])); exact BitVec.getLsbD_zero), put_sum _ _ _ _ (by omega) (fun i h1 h2 => by (repeat (rw [putI_bit _ _ _ _ _ (by omega) (by omega), if_neg (by omega)])); exact BitVec.getLsbD_zero), put_sum _ _ _ _ (by omega) (fun i h1 h2 => by (repeat (rw [putI_bit _ _ _ _ _ (by omega) (by omega), if_neg (by omega)])); exact BitVec.getLsbD_zero), put_sum _ _ _ _ (by omega) (fun i h1 h2 => by (repeat (rw [putI_bit _ _ _ _ _ (by omega) (by omega), if_neg (by omega)])); exact BitVec.getLsbD_zero), put_sum _ _ _ _ (by omega) (fun i h1 h2 => by (repeat (rw [putI_bit _ _ _ _ _ (by omega) (by omega), if_neg (by omega)])); exact BitVec.getLsbD_zero), put_sum _ _ _ _ (by omega) (fun i h1 h2 => by (repeat (rw [putI_bit _ _ _ _ _ (by omega) (by omega), if_neg (by omega)])); exact BitVec.getLsbD_zero), put_sum _ _ _ _ (by omega) (fun i h1 h2 => by (repeat (rw [putI_bit _ _ _ _ _ (by omega) (by omega), if_neg (by omega)])); exact BitVec.getLsbD_zero), put_sum _ _ _ _ (by omega) (fun i h1 h2 => by (repeat (rw [putI_bit _ _ _ _ _ (by omega) (by omega), if_neg (by omega)])); exact BitVec.getLsbD_zero)]
  have e1 := cd_low k hk
  have e2 := ff_low k hk
  have e3 := ot_low k hk
  have g0 := get_mask imm 1 4 (by omega)
  have g1 := get_mask imm 11 1 (by omega)
  have g2 := get_mask imm 12 1 (by omega)
  have g3 := get_mask imm 5 6 (by omega)
  simp only [Int.reduceToNat, show mask 1 = 1#64 from by decide, show mask 3 = 7#64 from by decide, show mask 4 = 15#64 from by decide, show mask 5 = 31#64 from by decide, show mask 6 = 63#64 from by decide, show mask 7 = 127#64 from by decide, show mask 8 = 255#64 from by decide, show mask 10 = 1023#64 from by decide, show mask 12 = 4095#64 from by decide, show mask 13 = 8191#64 from by decide, show mask 20 = 1048575#64 from by decide] at *
  simp only [e1, e2, e3.1, e3.2.1, e3.2.2, g0, g1, g2, g3, BitVec.zero_add, BitVec.shiftLeft_zero, BitVec.add_zero, BitVec.zero_and, BitVec.zero_shiftLeft]
  refine and_eq ?_
  generalize cd k = a0
  generalize ff k <<< 12 = a1
  generalize (rs1 &&& 31#64) <<< 15 = a2
  generalize (rs2 &&& 31#64) <<< 20 = a3
  generalize getI imm 1 4 <<< 8 = a4
  generalize getI imm 5 6 <<< 25 = a5
  generalize getI imm 11 1 <<< 7 = a6
  generalize getI imm 12 1 <<< 31 = a7
  ac_rfl
theorem sum_U (k : Nat) (hk : k < 69) (hs : sh k = 85) (rd rs1 rs2 imm : BitVec 64) : u (((((cd k) + ((((rd &&& 31#64) &&& 4294967295#64) <<< 7) &&& 4294967295#64)) &&& 4294967295#64) + ((getI imm 12 20 <<< 12) &&& 4294967295#64)) &&& 4294967295#64) = u (word_U k rd rs1 rs2 imm &&& 4294967295#64) := by
  apply congrArg u
  simp only [add_ml, add_mr, shl_m]
  unfold word_U
  rw [put_sum _ _ _ _ (by omega) (fun i h1 h2 => by (repeat (rw [putI_bit _ _ _ _ _ (by omega) (by omega), if_neg (by omega)])); exact BitVec.getLsbD_zero), put_sum _ _ _ _ (by omega) (fun i h1 h2 => by (repeat (rw [putI_bit _ _ _ _ _ (by omega) (by omega), if_neg (by omega)])); exact BitVec.getLsbD_zero), put_sum _ _ _ _ (by omega) (fun i h1 h2 => by (repeat (rw [putI_bit _ _ _ _ _ (by omega) (by omega), if_neg (by omega)])); exact BitVec.getLsbD_zero)]
  have e1 := cd_low k hk
  have e2 := ff_low k hk
  have e3 := ot_low k hk
  have g0 := get_mask imm 12 20 (by omega)
  simp only [Int.reduceToNat, show mask 1 = 1#64 from by decide, show mask 3 = 7#64 from by decide, show mask 4 = 15#64 from by decide, show mask 5 = 31#64 from by decide, show mask 6 = 63#64 from by decide, show mask 7 = 127#64 from by decide, show mask 8 = 255#64 from by decide, show mask 10 = 1023#64 from by decide, show mask 12 = 4095#64 from by decide, show mask 13 = 8191#64 from by decide, show mask 20 = 1048575#64 from by decide] at *
  simp only [e1, e2, e3.1, e3.2.1, e3.2.2, g0, BitVec.zero_add, BitVec.shiftLeft_zero, BitVec.add_zero, BitVec.zero_and, BitVec.zero_shiftLeft]
  refine and_eq ?_
  generalize cd k = a0
  generalize (rd &&& 31#64) <<< 7 = a1
  generalize getI imm 12 20 <<< 12 = a2
  ac_rfl
theorem sum_J (k : Nat) (hk : k < 69) (hs : sh k = 74) (rd rs1 rs2 imm : BitVec 64) : u (((((((((((cd k) + ((((rd &&& 31#64) &&& 4294967295#64) <<< 7) &&& 4294967295#64)) &&& 4294967295#64) + ((getI imm 12 8 <<< 12) &&& 4294967295#64)) &&& 4294967295#64) + ((getI imm 11 1 <<< 20) &&& 4294967295#64)) &&& 4294967295#64) + ((getI imm 1 10 <<< 21) &&& 4294967295#64)) &&& 4294967295#64) + ((getI imm 20 1 <<< 31) &&& 4294967295#64)) &&& 4294967295#64) = u (word_J k rd rs1 rs2 imm &&& 4294967295#64) := by
  apply congrArg u
  simp only [add_ml, add_mr, shl_m]
  unfold word_J
  rw [put_sum _ _ _ _ (by omega) (fun i h1 h2 => by (repeat (rw [putI_bit _ _ _ _ _ (by omega) (by omega), if_neg (by omega)])); exact BitVec.getLsbD_zero), put_sum _ _ _ _ (by omega) (fun i h1 h2 => by (repeat (rw [putI_bit _ _ _ _ _ (by omega) (by omega), if_neg (by omega)])); exact BitVec.getLsbD_zero), put_sum _ _ _ _ (by omega) (fun i h1 h2 => by (repeat (rw [putI_bit _ _ _ _ _ (by omega) (by omega), if_neg (by omega)])); exact BitVec.getLsbD_zero), put_sum _ _ _ _ (by omega) (fun i h1 h2 => by (repeat (rw [putI_bit _ _ _ _ _ (by omega) (by omega), if_neg (by omega)])); exact BitVec.getLsbD_zero), put_sum _ _ _ _ (by omega) (fun i h1 h2 => by (repeat (rw [putI_bit _ _ _ _ _ (by omega) (by omega), if_neg (by omega)])); exact BitVec.getLsbD_zero), put_sum _ _ _ _ (by omega) (fun i h1 h2 => by (repeat (rw [putI_bit _ _ _ _ _ (by omega) (by omega), if_neg (by omega)])); exact BitVec.getLsbD_zero)]
  have e1 := cd_low k hk
  have e2 := ff_low k hk
  have e3 := ot_low k hk
  have g0 := get_mask imm 1 10 (by omega)
  have g1 := get_mask imm 11 1 (by omega)
  have g2 := get_mask imm 12 8 (by omega)
  have g3 := get_mask imm 20 1 (by omega)
  simp only [Int.reduceToNat, show mask 1 = 1#64 from by decide, show mask 3 = 7#64 from by decide, show mask 4 = 15#64 from by decide, show mask 5 = 31#64 from by decide, show mask 6 = 63#64 from by decide, show mask 7 = 127#64 from by decide, show mask 8 = 255#64 from by decide, show mask 10 = 1023#64 from by decide, show mask 12 = 4095#64 from by decide, show mask 13 = 8191#64 from by decide, show mask 20 = 1048575#64 from by decide] at *
  simp only [e1, e2, e3.1, e3.2.1, e3.2.2, g0, g1, g2, g3, BitVec.zero_add, BitVec.shiftLeft_zero, BitVec.add_zero, BitVec.zero_and, BitVec.zero_shiftLeft]
  refine and_eq ?_
  generalize cd k = a0
  generalize (rd &&& 31#64) <<< 7 = a1
  generalize getI imm 12 8 <<< 12 = a2
  generalize getI imm 11 1 <<< 20 = a3
  generalize getI imm 1 10 <<< 21 = a4
  generalize getI imm 20 1 <<< 31 = a5
  ac_rfl
theorem sum_N (k : Nat) (hk : k < 69) (hs : sh k = 78) (rd rs1 rs2 imm : BitVec 64) : u (((cd k) + (((ot k) <<< 20) &&& 4294967295#64)) &&& 4294967295#64) = u (word_N k rd rs1 rs2 imm &&& 4294967295#64) := by
  apply congrArg u
  simp only [add_ml, add_mr, shl_m]
  unfold word_N
  rw [put_sum _ _ _ _ (by omega) (fun i h1 h2 => by (repeat (rw [putI_bit _ _ _ _ _ (by omega) (by omega), if_neg (by omega)])); exact BitVec.getLsbD_zero), put_sum _ _ _ _ (by omega) (fun i h1 h2 => by (repeat (rw [putI_bit _ _ _ _ _ (by omega) (by omega), if_neg (by omega)])); exact BitVec.getLsbD_zero), put_sum _ _ _ _ (by omega) (fun i h1 h2 => by (repeat (rw [putI_bit _ _ _ _ _ (by omega) (by omega), if_neg (by omega)])); exact BitVec.getLsbD_zero)]
  have e1 := cd_low k hk
  have e2 := ff_low k hk
  have e3 := ot_low k hk
  simp only [Int.reduceToNat, show mask 1 = 1#64 from by decide, show mask 3 = 7#64 from by decide, show mask 4 = 15#64 from by decide, show mask 5 = 31#64 from by decide, show mask 6 = 63#64 from by decide, show mask 7 = 127#64 from by decide, show mask 8 = 255#64 from by decide, show mask 10 = 1023#64 from by decide, show mask 12 = 4095#64 from by decide, show mask 13 = 8191#64 from by decide, show mask 20 = 1048575#64 from by decide] at *
  simp only [e1, e2, e3.1, e3.2.1, e3.2.2, BitVec.zero_add, BitVec.shiftLeft_zero, BitVec.add_zero, BitVec.zero_and, BitVec.zero_shiftLeft]
end Go.Proofs.Ytpmpibcfmejbfaa.Inst
