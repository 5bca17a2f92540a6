/- A number that fits with its sign is told by the sign of its lowest bits; one that fits without is its lowest bits; with a bit more it fits still: the statement's function answers true. No condition but that the arguments are numbers of their kinds. -/
import Derived.Test.YtfhigpmpngfkbaaFieldCalls
import Derived.Test.YtfhigpmpngfkbaaFieldLaws
namespace Go.Proofs.Ytfhigpmpngfkbaa.Signs
open Go.RowKit Go.Proofs.YtfhigpmpngfkbaaW.PrintWords Go.Proofs.YtfhigpmpngfkbaaW.PrintLast Go.Proofs.YtfhigpmpngfkbaaW.PrintMore Go.Proofs.Ytfhigpmpngfkbaa.Bits Go.Proofs.Ytfhigpmpngfkbaa.FC
set_option maxRecDepth 100000 in
theorem walk_less (x y : BitVec 64) (n : Nat) (h64 : decide ((n : Int) < 64) = true) (h1 : (1 : Int) ≤ n) (h2 : (n : Int) ≤ 64) (b1 b4 b5 : Bool) (hn : wrap64 (1 + (Go.bits .and .i64 (s y) 63)) = (n : Int))
    (g1 : fitsI x n true = b1) (g2 : (s (signI (x &&& maskI n) n) == s x) = b1) (g3 : fitsI x n false = (b4 && b5)) (g4 : (s (x &&& maskI n) == s x) = b4)
    (g5 : decide (0 ≤ s x) = b5) (g7 : (b1 || (b4 && b5)) = true → fitsI x (n + 1) true = true) (g8 : fitsI x 64 true = true) (g9 : (u (signI (signI x n) n) == u (signI x n)) = true)
    (g10 : (u (maskI 3) == 7) = true) (W : World) : Calls Try.prog 5 #[.int .i64 (s x), .int .i64 (s y)] W fun e W' => e = .returned (.bool true) ∧ Drawn0 W W' := by
  have r1 := wrap_s
  have r2 := wrap64_u
  have r3 := bits_and
  cases b1 <;> cases b4 <;> cases b5 <;> simp only [Bool.and_true, Bool.and_false] at g3
  all_goals
    first | replace g7 := g7 rfl | clear g7
    go_enter Try.func5, Try.ntmps5
    go_wp2_with (first | (go_at_call 15; (with_reducible refine (mask_c _ _).mono ?_); rintro e w' ⟨rfl, ⟨nd, rfl⟩⟩) | (go_at_call 18; (with_reducible refine (fits_c _ _ _ _).mono ?_); rintro e w' ⟨rfl, ⟨nd, rfl⟩⟩) | (go_at_call 19; (with_reducible refine (sign_c _ _ _).mono ?_); rintro e w' ⟨rfl, ⟨nd, rfl⟩⟩))
    go_ret
    exact ⟨rfl, ⟨_, rfl⟩⟩
set_option maxRecDepth 100000 in
theorem walk_all (x y : BitVec 64) (n : Nat) (h64 : decide ((n : Int) < 64) = false) (b1 b4 b5 : Bool) (hn : wrap64 (1 + (Go.bits .and .i64 (s y) 63)) = (n : Int))
    (g1 : fitsI x n true = b1) (g2 : (s (signI (x &&& maskI n) n) == s x) = b1) (g3 : fitsI x n false = (b4 && b5)) (g4 : (s (x &&& maskI n) == s x) = b4)
    (g5 : decide (0 ≤ s x) = b5) (g8 : fitsI x 64 true = true) (g9 : (u (signI (signI x n) n) == u (signI x n)) = true)
    (g10 : (u (maskI 3) == 7) = true) (W : World) : Calls Try.prog 5 #[.int .i64 (s x), .int .i64 (s y)] W fun e W' => e = .returned (.bool true) ∧ Drawn0 W W' := by
  have r1 := wrap_s
  have r2 := wrap64_u
  have r3 := bits_and
  cases b1 <;> cases b4 <;> cases b5 <;> simp only [Bool.and_true, Bool.and_false] at g3
  all_goals
    go_enter Try.func5, Try.ntmps5
    go_wp2_with (first | (go_at_call 15; (with_reducible refine (mask_c _ _).mono ?_); rintro e w' ⟨rfl, ⟨nd, rfl⟩⟩) | (go_at_call 18; (with_reducible refine (fits_c _ _ _ _).mono ?_); rintro e w' ⟨rfl, ⟨nd, rfl⟩⟩) | (go_at_call 19; (with_reducible refine (sign_c _ _ _).mono ?_); rintro e w' ⟨rfl, ⟨nd, rfl⟩⟩))
    go_ret
    exact ⟨rfl, ⟨_, rfl⟩⟩

theorem width (y : BitVec 64) : ∃ n : Nat, 1 ≤ n ∧ n ≤ 64 ∧ wrap64 (1 + (Go.bits .and .i64 (s y) 63)) = (n : Int) := by
  rw [show (63 : Int) = s 63#64 from rfl, bits_andi]
  have h : (y &&& 63#64).toNat ≤ 63 := by rw [BitVec.toNat_and]; exact Nat.and_le_right
  have e : s (y &&& 63#64) = ((y &&& 63#64).toNat : Int) := by
    unfold s; rw [BitVec.toInt_eq_toNat_of_lt (by omega)]
  refine ⟨1 + (y &&& 63#64).toNat, by omega, by omega, ?_⟩
  rw [e]; unfold wrap64; omega
theorem fits_pos (x : BitVec 64) (n : Nat) (h1 : 1 ≤ n) (h : n ≤ 64) : fitsI x n true = decide (sign x n = x) := by
  unfold fitsI; rw [if_pos (by omega), if_pos rfl, Int.toNat_natCast]
theorem fits_neg (x : BitVec 64) (n : Nat) (h1 : 1 ≤ n) (h : n ≤ 64) : fitsI x n false = (decide (0 ≤ s x) && decide (x &&& ~~~(mask n) = 0#64)) := by
  unfold fitsI; rw [if_pos (by omega), if_neg (by decide), Int.toNat_natCast]
theorem mask_n (n : Nat) (h : n ≤ 64) : maskI (n : Int) = mask n := by unfold maskI; rw [Int.toNat_natCast, Nat.min_eq_left h]
theorem sign_n (x : BitVec 64) (n : Nat) (h1 : 1 ≤ n) (h : n ≤ 64) : signI x (n : Int) = sign x n := by
  unfold signI; rw [if_pos (by omega), Int.toNat_natCast]
theorem beq_s (x y : BitVec 64) : (s x == s y) = decide (x = y) := by rw [Bool.eq_iff_iff]; simp [s_eq]
/-- The walk: whatever the numbers. -/
theorem FieldSigns (a0 a1 : Int) (w0 : (Lit.int .i64 a0).wf = true) (w1 : (Lit.int .i64 a1).wf = true) (W : World) :
    Calls Try.prog 5 #[.int .i64 a0, .int .i64 a1] W fun e W' => e = .returned (.bool true) ∧ Below W.heap.size W W' := by
  obtain ⟨x, rfl⟩ := s_of w0
  obtain ⟨y, rfl⟩ := s_of w1
  obtain ⟨n, h1, h, hn⟩ := width y
  have low : decide (x &&& ~~~(mask n) = 0#64) = decide (x &&& mask n = x) := by rw [decide_eq_decide]; exact (low_eq x n h).symm
  have g2 : (s (signI (x &&& maskI n) n) == s x) = decide (sign x n = x) := by
    rw [mask_n n h, sign_n _ n h1 h, sign_low x n h1 h, beq_s]
  have g3 : fitsI x n false = (decide (x &&& mask n = x) && decide (0 ≤ s x)) := by rw [fits_neg x n h1 h, Bool.and_comm, low]
  have g4 : (s (x &&& maskI n) == s x) = decide (x &&& mask n = x) := by rw [mask_n n h, beq_s]
  have g8 : fitsI x 64 true = true := by rw [show (64 : Int) = ((64 : Nat) : Int) from rfl, fits_pos x 64 (by omega) (by omega), sign_64]; simp
  have g9 : (u (signI (signI x n) n) == u (signI x n)) = true := by
    rw [sign_n x n h1 h, sign_n _ n h1 h, sign_sign x n h1 h]; simp
  have g10 : (u (maskI 3) == 7) = true := by decide
  by_cases h64 : n < 64
  · refine (walk_less x y n (decide_eq_true (by omega)) (by omega) (by omega) _ _ _ hn (fits_pos x n h1 h) g2 g3 g4 rfl (fun e => ?_) g8 g9 g10 W).mono fun e W' ⟨he, hd⟩ => ⟨he, hd.below⟩
    rw [show ((n : Int) + 1) = ((n + 1 : Nat) : Int) by omega, fits_pos x (n + 1) (by omega) (by omega)]
    simp only [Bool.or_eq_true, Bool.and_eq_true, decide_eq_true_eq] at e
    rcases e with e | e
    · exact decide_eq_true (sign_mono x n h1 h64 e)
    · exact decide_eq_true (fits_mono x n h64 ((low_eq x n h).mp e.1))
  · exact (walk_all x y n (decide_eq_false (by omega)) _ _ _ hn (fits_pos x n h1 h) g2 g3 g4 rfl g8 g9 g10 W).mono fun e W' ⟨he, hd⟩ => ⟨he, hd.below⟩
end Go.Proofs.Ytfhigpmpngfkbaa.Signs
