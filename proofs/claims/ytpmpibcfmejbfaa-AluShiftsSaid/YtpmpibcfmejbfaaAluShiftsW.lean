/- What is moved up and down again has its lower bits, with the sign or without; a sum less one of both is the other one: the statement's function answers true. No condition but that the arguments are of their types. -/
import Derived.Test.YtpmpibcfmejbfaaAluDoC
import Derived.Test.YtpmpibcfmejbfaaOpen
import Derived.Test.YtpmpibcfmejbfaaFieldLaws
import Derived.WalkSmall
namespace Go.Proofs.Ytpmpibcfmejbfaa.AluShiftsW
open Go.RowKit Go.Proofs.YtpmpibcfmejbfaaW.PrintWords Go.Proofs.YtpmpibcfmejbfaaW.PrintLast Go.Proofs.YtpmpibcfmejbfaaW.PrintMore Go.Proofs.Ytpmpibcfmejbfaa.Bits Go.Proofs.Ytpmpibcfmejbfaa.Alu Go.Proofs.Ytpmpibcfmejbfaa.Opens
theorem not_u (y : BitVec 64) : Go.bits .xor .u64 IntKind.u64.max (u y) = u (~~~y) := by
  have h : IntKind.u64.max = u (BitVec.allOnes 64) := by decide
  rw [h, bits_xor]; congr 1
set_option maxRecDepth 100000 in
theorem steps (a b : BitVec 64) (n : Nat) (bt : Bool) (hn : b.toNat % 64 = n) (_hlt : n < 64) (hd : decide ((n : Int) < 64) = true)
    (v1 : IntKind.u64.wrap (63 - (n : Int)) = ((63 - n : Nat) : Int)) (_v3 : (0 : Int) ≤ ((63 - n : Nat) : Int)) (v4 : ((63 - n : Nat) : Int) ≤ 64) (q : u a / 2 ^ (63 - n) = u (a >>> (63 - n))) (hb : (u ((a >>> (63 - n)) &&& 1#64) == 1) = bt) (m : BitVec 64) (hm : 18446744073709551615 / 2 ^ n = u m) (t1 : (u (a <<< n >>> n) == u (a &&& m)) = true)
    (t2 : (u ((a <<< n).sshiftRight n) == bif bt then u ((a &&& m) ||| ~~~m) else Go.bits .or .u64 (u (a &&& m)) 0) = true) (t3 : (u (a + b - b) == u a) = true) (W : World) : Calls Try.prog 3 #[.int .u64 (u a), .int .u64 (u b)] W fun e W' => e = .returned (.bool true) ∧ Drawn0 W W' := by
  have r3 := bits_and
  have r4 := bits_or
  have r5 : ∀ y, Go.bits .and .u64 (u y) 1 = u (y &&& 1#64) := fun y => bits_and y 1#64
  have r8 := mod_n b
  have r9 := mod_m b
  rw [hn] at r8 r9
  have x1 := not_u
  have x2 : ∀ y, Go.bits .xor .u64 (if IntKind.u64.signed = true then -1 else IntKind.u64.max) (u y) = u (~~~y) := fun y => not_u y
  cases bt
  all_goals
    simp only [cond_true, cond_false] at t2
    go_enter Try.func3, Try.ntmps3
    go_wp2_with (first | (go_at_call 12; (with_reducible refine (do_33 _ _ _).mono ?_); rintro e w' ⟨rfl, ⟨nd, rfl⟩⟩) | (go_at_call 12; (with_reducible refine (do_37 _ _ _).mono ?_); rintro e w' ⟨rfl, ⟨nd, rfl⟩⟩) | (go_at_call 12; (with_reducible refine (do_38 _ _ _).mono ?_); rintro e w' ⟨rfl, ⟨nd, rfl⟩⟩) | (go_at_call 12; (with_reducible refine (do_31 _ _ _).mono ?_); rintro e w' ⟨rfl, ⟨nd, rfl⟩⟩) | (go_at_call 12; (with_reducible refine (do_32 _ _ _).mono ?_); rintro e w' ⟨rfl, ⟨nd, rfl⟩⟩) | (go_at_call 13; (with_reducible refine (one_c _).mono ?_); rintro e w' ⟨rfl, ⟨nd, rfl⟩⟩))
    go_ret
    exact ⟨rfl, ⟨_, rfl⟩⟩
theorem bit_one (x : BitVec 64) (n : Nat) : (u (x >>> n &&& 1#64) == 1) = x.getLsbD n := by
  have h : (x >>> n &&& 1#64) = if x.getLsbD n then 1#64 else 0#64 := by
    apply ext; intro i hi
    rw [BitVec.getLsbD_and, BitVec.getLsbD_ushiftRight, BitVec.getLsbD_one]
    by_cases h0 : i = 0
    · subst h0; cases h : x.getLsbD n <;> simp_all
    · cases h : x.getLsbD n <;> simp [h0]
  rw [h]; cases x.getLsbD n <;> rfl
theorem ones_bit (n i : Nat) : ((BitVec.allOnes 64) >>> n).getLsbD i = decide (n + i < 64) := by
  rw [BitVec.getLsbD_ushiftRight, BitVec.getLsbD_allOnes]
theorem main (a b : BitVec 64) (W : World) : Calls Try.prog 3 #[.int .u64 (u a), .int .u64 (u b)] W fun e W' => e = .returned (.bool true) ∧ Drawn0 W W' := by
  obtain ⟨n, hn⟩ : ∃ n, b.toNat % 64 = n := ⟨_, rfl⟩
  have hlt : n < 64 := by rw [← hn]; exact Nat.mod_lt _ (by omega)
  refine steps a b n (a.getLsbD (63 - n)) hn hlt (decide_eq_true (by omega)) ?_ (by omega) (by omega) (shr_n a _) (bit_one a _) ((BitVec.allOnes 64) >>> n) ?_ ?_ ?_ ?_ W
  · rw [wrap_u64]; omega
  · have h : (18446744073709551615 : Int) = u (BitVec.allOnes 64) := by decide
    rw [h, shr_n]
  · have : a <<< n >>> n = a &&& ((BitVec.allOnes 64) >>> n) := by
      apply ext; intro i hi
      rw [BitVec.getLsbD_ushiftRight, BitVec.getLsbD_shiftLeft, BitVec.getLsbD_and, ones_bit n i]
      have e : n + i - n = i := by omega
      have e2 : ¬ n + i < n := by omega
      simp [e, e2]; rw [Bool.and_comm]
    rw [this]; simp
  · have key : (a <<< n).sshiftRight n = bif a.getLsbD (63 - n) then (a &&& ((BitVec.allOnes 64) >>> n)) ||| ~~~((BitVec.allOnes 64) >>> n) else a &&& ((BitVec.allOnes 64) >>> n) := by
      apply ext; intro i hi
      rw [BitVec.getLsbD_sshiftRight, BitVec.msb_eq_getLsbD_last, BitVec.getLsbD_shiftLeft, BitVec.getLsbD_shiftLeft]
      have e : n + i - n = i := by omega
      have e2 : ¬ n + i < n := by omega
      have e3 : 64 - 1 - n = 63 - n := by omega
      have e4 : ¬ 64 - 1 < n := by omega
      have e5 : ¬ 64 ≤ i := by omega
      have o := ones_bit n i
      by_cases h : n + i < 64
      · cases hb : a.getLsbD (63 - n)
        · simp only [cond_false, BitVec.getLsbD_and, o, h, decide_true]; simp [e, e2, e5]
        · simp only [cond_true, BitVec.getLsbD_or, BitVec.getLsbD_not, BitVec.getLsbD_and, o, h, decide_true]; simp [e, e2, e5]
      · cases a.getLsbD (63 - n)
        · simp only [cond_false, BitVec.getLsbD_and, o, h, decide_false]; simp [e5]
        · simp only [cond_true, BitVec.getLsbD_or, BitVec.getLsbD_not, BitVec.getLsbD_and, o, h, decide_false, hi]; simp [e5]; omega
    rw [key]
    cases a.getLsbD (63 - n)
    · simp only [cond_false]
      have h0 : (0 : Int) = u 0#64 := rfl
      rw [h0, bits_or]
      have : (a &&& ((BitVec.allOnes 64) >>> n)) ||| 0#64 = a &&& ((BitVec.allOnes 64) >>> n) := by simp
      rw [this]; simp
    · simp
  · rw [BitVec.add_sub_cancel]; simp
theorem walk (W : World) (base : Nat) (v0 v1 : Value) (o0 : Value.okWide Try.prog W .any base 22 v0) (o1 : Value.okWide Try.prog W .any base 22 v1) :
    Calls Try.prog 3 #[v0, v1] W fun e W' => e = .returned (.bool true) ∧ Below W.heap.size W W' := by
  obtain ⟨x, rfl⟩ := val_u64 Try.underlying22 o0
  obtain ⟨y, rfl⟩ := val_u64 Try.underlying22 o1
  exact (main x y W).mono fun e W' ⟨he, hd⟩ => ⟨he, hd.below⟩
end Go.Proofs.Ytpmpibcfmejbfaa.AluShiftsW
