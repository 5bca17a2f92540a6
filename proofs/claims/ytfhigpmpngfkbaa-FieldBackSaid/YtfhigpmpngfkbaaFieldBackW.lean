/- What is put into a field is got out of it, twice the same as once, and fields that have no bit in common are as they were: the statement's function answers true. No condition but that the arguments are of their types. -/
import Derived.Test.YtfhigpmpngfkbaaFieldCalls
import Derived.Test.YtfhigpmpngfkbaaFieldLaws
import Derived.Test.YtfhigpmpngfkbaaOpen
import Derived.WalkSmall
namespace Go.Proofs.Ytfhigpmpngfkbaa.FieldBackW
open Go.RowKit Go.Proofs.YtfhigpmpngfkbaaW.PrintWords Go.Proofs.YtfhigpmpngfkbaaW.PrintLast Go.Proofs.YtfhigpmpngfkbaaW.PrintMore Go.Proofs.Ytfhigpmpngfkbaa.Bits Go.Proofs.Ytfhigpmpngfkbaa.FC Go.Proofs.Ytfhigpmpngfkbaa.Opens
theorem get_171 (W : World) : Calls Try.prog 14 #[.int .u64 171, .int .i64 4, .int .i64 4] W fun e W' => e = .returned (.int .u64 10) ∧ Drawn0 W W' :=
  get_c 171#64 4 4 W
set_option maxRecDepth 100000 in
set_option maxHeartbeats 1000000 in
theorem steps (x v : BitVec 64) (p0 p1 p2 p3 a w b k wd kd : Int) (b1 b2 b3 b4 : Bool)
   (ha : Go.bits .and .i64 p0 63 = a) (hw : Go.bits .and .i64 p1 63 = w) (hb : Go.bits .and .i64 p2 63 = b) (hk : Go.bits .and .i64 p3 63 = k)
   (a0 : 0 ≤ a) (a1 : a ≤ 63) (w0 : 0 ≤ w) (w1 : w ≤ 63) (c0 : 0 ≤ b) (c1 : b ≤ 63) (k0 : 0 ≤ k) (k1 : k ≤ 63)
   (t1 : decide (64 - a < w) = b1) (t2 : decide (64 - b < k) = b2) (e1 : wd = bif b1 then 64 - a else w) (e2 : kd = bif b2 then 64 - b else k)
   (t3 : (u (getI (putI x a wd v) a wd) != u (v &&& maskI wd)) = false)
   (t4 : (u (putI (putI x a wd v) a wd v) != u (putI x a wd v)) = false)
   (t5 : (u (putI (putI x a wd v) a wd (getI x a wd)) != u x) = false)
   (t6 : decide (a + wd ≤ b) = b3) (t7 : decide (b + kd ≤ a) = b4)
   (t8 : (b3 || b4) = true → (u (getI (putI x a wd v) b kd) == u (getI x b kd)) = true)
   (W : World) : Calls Try.prog 3 #[.int .u64 (u x), .int .u64 (u v), .agg #[.int .i64 p0, .int .i64 p1, .int .i64 p2, .int .i64 p3]] W fun e W' => e = .returned (.bool true) ∧ Below W.heap.size W W' := by
  have r1 := wrap_s
  have r2 := wrap64_u
  have r3 := bits_and
  cases b1 <;> cases b2 <;> cases b3 <;> cases b4 <;> simp only [cond_true, cond_false] at e1 e2 <;> subst e1 <;> subst e2
  all_goals
    first | replace t8 := t8 rfl | clear t8
    go_enter Try.func3, Try.ntmps3
    go_wp2_with fail
    go_quiet (fail)
    go_wp2_with fail
    go_quiet (fail)
    go_wp2_with (first | (go_at_call 13; (with_reducible refine (put_c _ _ _ _ _).mono ?_); rintro e w' ⟨rfl, ⟨nd, rfl⟩⟩) | (go_at_call 15; (with_reducible refine (mask_c _ _).mono ?_); rintro e w' ⟨rfl, ⟨nd, rfl⟩⟩) | (go_at_call 14; (with_reducible refine (get_171 _).mono ?_); rintro e w' ⟨rfl, ⟨nd, rfl⟩⟩) | (go_at_call 14; (with_reducible refine (get_c _ _ _ _).mono ?_); rintro e w' ⟨rfl, ⟨nd, rfl⟩⟩))
    go_ret
    exact ⟨rfl, below_drewN ((Below.refl _ _).alloc (Nat.le_refl _) _) _⟩

theorem low6 (p : BitVec 64) : ∃ n : Nat, n ≤ 63 ∧ Go.bits .and .i64 (s p) 63 = (n : Int) := by
  rw [show (63 : Int) = s 63#64 from rfl, bits_andi]
  have h : (p &&& 63#64).toNat ≤ 63 := by rw [BitVec.toNat_and]; exact Nat.and_le_right
  exact ⟨_, h, by unfold s; rw [BitVec.toInt_eq_toNat_of_lt (by omega)]⟩
theorem putI_n (x : BitVec 64) (a w : Nat) (v : BitVec 64) (h : a + w ≤ 64) : putI x a w v = put x a w v := by
  unfold putI; rw [if_pos (show mayB a w = true from decide_eq_true (by omega)), Int.toNat_natCast, Int.toNat_natCast]
theorem getI_n (x : BitVec 64) (a w : Nat) (h : a + w ≤ 64) : getI x a w = Bits.get x a w := by
  unfold getI; rw [if_pos (show mayB a w = true from decide_eq_true (by omega)), Int.toNat_natCast, Int.toNat_natCast]
theorem mask_n (n : Nat) (h : n ≤ 64) : maskI (n : Int) = mask n := by unfold maskI; rw [Int.toNat_natCast, Nat.min_eq_left h]
theorem put_back (x : BitVec 64) (a w : Nat) (v : BitVec 64) (h : a + w ≤ 64) : put (put x a w v) a w (Bits.get x a w) = x := by
  apply ext; intro i hi
  rw [put_bit _ _ _ _ _ (by omega) hi, put_bit _ _ _ _ _ (by omega) hi]
  by_cases h2 : a ≤ i ∧ i < a + w
  · rw [if_pos h2, get_bit _ _ _ _ (by omega), show a + (i - a) = i by omega]; simp; omega
  · rw [if_neg h2, if_neg h2]
/-- The width that a field has at most. -/
theorem short (a w : Nat) (ha : a ≤ 63) : ∃ d : Nat, a + d ≤ 64 ∧ (d : Int) = bif decide (64 - (a : Int) < w) then 64 - (a : Int) else w := by
  by_cases h : 64 - (a : Int) < w
  · exact ⟨64 - a, by omega, by rw [decide_eq_true h]; simp only [cond_true]; omega⟩
  · exact ⟨w, by omega, by rw [decide_eq_false h]; rfl⟩
theorem main (x v q0 q1 q2 q3 : BitVec 64) (W : World) : Calls Try.prog 3 #[.int .u64 (u x), .int .u64 (u v), .agg #[.int .i64 (s q0), .int .i64 (s q1), .int .i64 (s q2), .int .i64 (s q3)]] W fun e W' => e = .returned (.bool true) ∧ Below W.heap.size W W' := by
  obtain ⟨a, ha, ea⟩ := low6 q0
  obtain ⟨w, hw, ew⟩ := low6 q1
  obtain ⟨b, hb, eb⟩ := low6 q2
  obtain ⟨k, hk, ek⟩ := low6 q3
  obtain ⟨wd, h1, e1⟩ := short a w ha
  obtain ⟨kd, h2, e2⟩ := short b k hb
  refine steps x v _ _ _ _ a w b k wd kd _ _ _ _ ea ew eb ek (by omega) (by omega) (by omega) (by omega) (by omega) (by omega) (by omega) (by omega) rfl rfl e1 e2 ?_ ?_ ?_ rfl rfl ?_ W
  · rw [putI_n _ _ _ _ h1, getI_n _ _ _ h1, get_put _ _ _ _ h1, mask_n _ (by omega)]; simp
  · rw [putI_n _ _ _ _ h1, putI_n _ _ _ _ h1, put_put _ _ _ _ h1]; simp
  · rw [getI_n _ _ _ h1, putI_n _ _ _ _ h1, putI_n _ _ _ _ h1, put_back _ _ _ _ h1]; simp
  · intro h
    simp only [Bool.or_eq_true, decide_eq_true_eq] at h
    rw [putI_n _ _ _ _ h1, getI_n _ _ _ h2, getI_n _ _ _ h2, get_apart _ _ _ _ _ _ h1 h2 (by omega)]; simp
theorem walk (W : World) (base : Nat) (v0 v1 v2 : Value) (o0 : Value.okWide Try.prog W .any base 22 v0) (o1 : Value.okWide Try.prog W .any base 22 v1) (o2 : Value.okWide Try.prog W .any base 23 v2) :
    Calls Try.prog 3 #[v0, v1, v2] W fun e W' => e = .returned (.bool true) ∧ Below W.heap.size W W' := by
  obtain ⟨x, rfl⟩ := val_u64 Try.underlying22 o0
  obtain ⟨v, rfl⟩ := val_u64 Try.underlying22 o1
  obtain ⟨q0, q1, q2, q3, rfl⟩ := val_arr4 Try.underlying23 Try.underlying3 (by kernel_rfl) (by kernel_rfl) o2
  exact main x v q0 q1 q2 q3 W
end Go.Proofs.Ytfhigpmpngfkbaa.FieldBackW
