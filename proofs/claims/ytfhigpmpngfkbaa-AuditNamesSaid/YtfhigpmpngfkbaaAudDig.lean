/- The digits of a number: what the program's function answers. The number is below 2^64. -/
import Derived.Test.YtfhigpmpngfkbaaAudL
import Derived.Test.YtfhigpmpngfkbaaKwJ
import Derived.Test.YtfhigpmpngfkbaaProg
import Derived.IntWalk
namespace Go.Proofs.Ytfhigpmpngfkbaa.Aud
open Go Go.RowKit Go.Proofs.Ytfhigpmpngfkbaa.Bits
attribute [local irreducible] Go.wpList
set_option linter.unusedVariables false
set_option linter.unusedSimpArgs false
theorem step_len {m q : Nat} (h : m < 10 ^ (20 - q)) (h10 : 10 ≤ m) : 1 ≤ 20 - q - 1 ∧ m / 10 < 10 ^ (20 - q - 1) := by
  rcases Nat.lt_or_ge (20 - q) 2 with h2 | h2
  · have : 10 ^ (20 - q) ≤ 10 ^ 1 := Nat.pow_le_pow_right (by omega) (by omega)
    omega
  · have e : 10 ^ (20 - q) = 10 ^ (20 - q - 1) * 10 := by rw [← Nat.pow_succ]; congr 1; omega
    rw [e] at h
    exact ⟨by omega, by omega⟩
theorem digits_c (n : Nat) (hn : n < 18446744073709551616) (W : World) : Calls Try.prog 53 #[.int .u64 ((n : Nat) : Int)] W fun e W' => e = .returned (.string (bs (dig n))) ∧ K2.Mem [] W W' [] := by
  refine calls_of_wp Try.func53 rfl ?_
  have M0 : K2.Mem [] W W [] := K2.Mem.start _ _
  refine K2.to (b := ⟨#[.int .u64 ((n : Nat) : Int), undef, undef, undef, undef, undef, undef, undef, undef, undef, undef, undef, undef, undef, undef, undef, undef], []⟩) (by kernel_rfl) ?_
  refine wp_seq ?_
  refine K2.region ?_
  refine K2.pure (.string { data := #[] }) (by kernel_rfl) (by kernel_rfl) ?_
  refine K2.fin ?_
  refine K2.then_normal ?_
  refine wp_seq ?_
  refine K2.region ?_
  refine K2.pure (.slice none 0 0) (by kernel_rfl) (by kernel_rfl) ?_
  refine K2.fin ?_
  refine K2.then_normal ?_
  refine wp_block ?_
  have MN := KO.mem_nil M0 5
  refine K2.to (b := ⟨#[.int .u64 ((n : Nat) : Int), undef, .string { data := #[] }, .slice none 0 0, undef, undef, undef, undef, undef, undef, undef, undef, undef, undef, undef, undef, undef], []⟩) (by kernel_rfl) ?_
  refine wp_loop (fun ac wc => ∃ (m : Nat) (xs : List UInt8) (ob : Option Nat) (q : Nat) (cap : Nat) (cur : Array Value), (dig n = dig m ++ xs) ∧ (xs.length = q ∧ q ≤ 19 ∧ m < 10 ^ (20 - q)) ∧ (m < 18446744073709551616) ∧ (KO.Own ob q cap cur 1 (Lib.byteCells xs)) ∧ KwJ.Fr [2, 4, 5, 6, 7, 8, 9, 10, 11, 12, 13, 14, 15, 16] (fun y1 => ⟨#[.int .u64 ((m : Nat) : Int), undef, y1 0, KO.slv ob q cap, y1 1, y1 2, y1 3, y1 4, y1 5, y1 6, y1 7, y1 8, y1 9, y1 10, y1 11, y1 12, y1 13], []⟩) ac ∧ K2.Mem [] W wc [(ob, cur, 5)]) (fun ac _ => (intOf (ac.tmps.getD 0 undef)).toNat) ⟨n, [], none, 0, 0, #[], by simp, ⟨rfl, by omega, by omega⟩, hn, KO.own_nil 1, KwJ.mkFr (by kernel_rfl), MN⟩ (fun ac w1 hI => ?_)
  obtain ⟨m, xs, ob, q, cap, cur, hm, hl, hb, O, hF1, M1⟩ := hI
  obtain ⟨y1, rfl⟩ := KwJ.fr hF1
  refine wp_block ?_
  refine wp_seq ?_
  refine K2.region ?_
  refine K2.pure (.int .u64 ((m : Nat) : Int)) (by kernel_rfl) (by kernel_rfl) ?_
  refine K2.pure (.int .u64 (((m % 10) : Nat) : Int)) (by kernel_rfl) (K2.eqv (v := .int .u64 (Int.tmod (((m : Nat) : Int)) (10 : Int))) (by kernel_rfl) (congrArg (Value.int .u64) (tmod_nat m 10))) ?_
  refine K2.pure (.int .u64 (48 + ((m % 10 : Nat) : Int))) (by kernel_rfl) (K2.eqv (v := .int .u64 (IntKind.u64.wrap ((48 : Int) + (((m % 10) : Nat) : Int)))) (by kernel_rfl) (congrArg (Value.int .u64) (by rw [wrap_u64]; omega))) ?_
  refine K2.pure (.int .u8 ((digC m).toNat : Int)) (by kernel_rfl) (K2.eqv (v := .int .u8 (IntKind.u8.wrap (48 + ((m % 10 : Nat) : Int)))) (by kernel_rfl) (congrArg (Value.int .u8) (by rw [digC_val]; simp [IntKind.wrap, IntKind.bits, IntKind.signed]; omega))) ?_
  refine K2.allocV (fun B => .slice (some ⟨B, 0, none⟩) 1 1) #[.int .u8 ((digC m).toNat : Int)] 5 M1 (by kernel_rfl) (by kernel_rfl) fun w2 B2 M2 => ?_
  refine K2.pure (KO.slv ob q cap) (by kernel_rfl) (by kernel_rfl) ?_
  refine KO.appO 74 74 5 1 1 (.int .u8 0) Try.underlying74 (by kernel_rfl) (by kernel_rfl) (by decide) (KO.own_lit B2 1 #[.int .u8 ((digC m).toNat : Int)] 1 (by decide) (by decide) (by kernel_rfl)) M2 0 rfl 1 O rfl (fun u hu => by simp only [Lib.byteCells, List.mem_map] at hu; obtain ⟨x, _, rfl⟩ := hu; rfl) (by simp only [maxLen]; omega) (by show (1 + q) * 1 ≤ _; omega) (by kernel_rfl) (by kernel_rfl) fun ob3 c3 cur3 w3 O3 M3 => ?_
  refine K2.pure (KO.slv ob3 (1 + q) c3) (by kernel_rfl) (by kernel_rfl) ?_
  refine K2.fin ?_
  refine K2.then_normal ?_
  refine wp_seq ?_
  refine K2.region ?_
  refine K2.pure (.int .u64 ((m : Nat) : Int)) (by kernel_rfl) (by kernel_rfl) ?_
  refine K2.pure (.int .u64 (((m / 10) : Nat) : Int)) (by kernel_rfl) (K2.eqv (v := .int .u64 (IntKind.u64.wrap (Int.tdiv (((m : Nat) : Int)) (10 : Int)))) (by kernel_rfl) (congrArg (Value.int .u64) (by show IntKind.u64.wrap (((m / 10 : Nat) : Int)) = _; rw [wrap_u64]; omega))) ?_
  refine K2.pure (.int .u64 (((m / 10) : Nat) : Int)) (by kernel_rfl) (by kernel_rfl) ?_
  refine K2.fin ?_
  refine K2.then_normal ?_
  refine wp_seq ?_
  refine K2.region ?_
  refine K2.pure (.int .u64 (((m / 10) : Nat) : Int)) (by kernel_rfl) (by kernel_rfl) ?_
  refine K2.pure (.bool (decide (m < 10))) (by kernel_rfl) (K2.eqv (v := .bool ((((m / 10) : Nat) : Int) == (0 : Int))) (by kernel_rfl) (congrArg Value.bool (by rw [Bool.eq_iff_iff]; simp only [beq_iff_eq, decide_eq_true_eq]; omega))) ?_
  refine K2.fin ?_
  refine K2.then_normal ?_
  refine wp_cond_split (t := (decide (m < 10))) (by kernel_rfl) (fun h4 => ?_) (fun h4 => ?_)
  · skip
    refine wp_seq ?_
    refine K2.region ?_
    refine K2.pure (KO.slv ob3 (1 + q) c3) (by kernel_rfl) (by kernel_rfl) ?_
    refine K2.pureS (cvS 74 9 (KO.slv ob3 (1 + q) c3)) (.string (bs (digC m :: xs))) (by kernel_rfl) (by kernel_rfl) (str_of 74 9 5 Try.underlying74 Try.underlying5 Try.underlying9 (l := digC m :: xs) O3 M3 0 rfl) ?_
    refine K2.pure (.string (bs (digC m :: xs))) (by kernel_rfl) (by kernel_rfl) ?_
    refine K2.fin ?_
    refine K2.then_normal ?_
    refine wp_ret ?_
    refine K2.block_ret ?_
    refine K2.then_ret ?_
    refine K2.block_ret ?_
    exact bodyPost_ret (v := .string (bs (digC m :: xs))) (by kernel_rfl) (by kernel_rfl) ⟨congrArg (fun z => Ending.returned (Value.string (bs z))) (by simp only [decide_eq_true_eq, decide_eq_false_iff_not, beq_iff_eq, beq_eq_false_iff_ne] at *; rw [hm, dig_lt (by omega)]; rfl), (KO.mem_sub M3 (.cons _ (.cons _ .slnil)))⟩
  · skip
    refine wp_skip ?_
    refine K2.block_normal ?_
    refine K2.then_normal ?_
    exact ⟨⟨m / 10, digC m :: xs, ob3, 1 + q, c3, cur3, by simp only [decide_eq_true_eq, decide_eq_false_iff_not, beq_iff_eq, beq_eq_false_iff_ne] at *; rw [hm, dig_ge (by omega), List.append_assoc]; rfl, by obtain ⟨h1, h2, h3⟩ := hl; have := step_len h3 (by simp only [decide_eq_true_eq, decide_eq_false_iff_not, beq_iff_eq, beq_eq_false_iff_ne] at *; omega); exact ⟨by simp; omega, by omega, by rw [show 20 - (1 + q) = 20 - q - 1 by omega]; exact this.2⟩, by omega, O3, KwJ.mkFr (by kernel_rfl), (KO.mem_sub M3 (.cons_cons _ (.cons _ .slnil)))⟩, K2.mlt (m / 10) (m) (by kernel_rfl) (by kernel_rfl) (by simp only [decide_eq_true_eq, decide_eq_false_iff_not, beq_iff_eq, beq_eq_false_iff_ne] at *; omega)⟩
end Go.Proofs.Ytfhigpmpngfkbaa.Aud
