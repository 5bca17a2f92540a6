/- A field is its lower part and its upper one, wherever it is cut, and what is laid part by part is what is laid whole: the statement's function answers true. No condition but that the arguments are of their types. -/
import Derived.Test.YtfhigpmpngfkbaaLayC
import Derived.Test.YtfhigpmpngfkbaaFieldLaws
import Derived.Test.YtfhigpmpngfkbaaOpen
import Derived.WalkSmall
namespace Go.Proofs.Ytfhigpmpngfkbaa.FieldPartsW
open Go.RowKit Go.Proofs.YtfhigpmpngfkbaaW.PrintWords Go.Proofs.YtfhigpmpngfkbaaW.PrintLast Go.Proofs.YtfhigpmpngfkbaaW.PrintMore Go.Proofs.Ytfhigpmpngfkbaa.Bits Go.Proofs.Ytfhigpmpngfkbaa.FC Go.Proofs.Ytfhigpmpngfkbaa.LayC Go.Proofs.Ytfhigpmpngfkbaa.Opens
theorem get_171 (W : World) : Calls Try.prog 14 #[.int .u64 171, .int .i64 4, .int .i64 4] W fun e W' => e = .returned (.int .u64 10) ∧ Drawn0 W W' :=
  get_c 171#64 4 4 W
theorem put_0 (a w : Int) (v : BitVec 64) (W : World) : Calls Try.prog 13 #[.int .u64 0, .int .i64 a, .int .i64 w, .int .u64 (u v)] W fun e W' => e = .returned (.int .u64 (u (putI 0#64 a w v))) ∧ Drawn0 W W' :=
  put_c 0#64 a w v W
theorem parts_one (a w : Int) (v : BitVec 64) (W : World) (n : Nat) (hn : n = W.heap.size) : PartsAt (W.alloc (.cells #[.int .i64 a, .int .i64 w, .int .u64 (u v)] 30)) (some ⟨n, 0, none⟩) [(a, w, v)] := by
  subst hn
  intro _
  refine ⟨_, _, rfl, by show _ < (W.heap.push _).size; simp, fun i hi => ?_⟩
  obtain rfl : i = 0 := by simpa using hi
  refine ⟨?_, ?_, ?_⟩ <;> rw [World.cell?_alloc_new] <;> rfl
set_option maxRecDepth 100000 in
set_option maxHeartbeats 1000000 in
theorem steps (x v lw : BitVec 64) (p0 p1 p2 a w k wd kd : Int) (b1 b3 : Bool)
   (ha : Go.bits .and .i64 p0 63 = a) (hw : Go.bits .and .i64 p1 63 = w) (hk : Go.bits .and .i64 p2 63 = k)
   (a0 : 0 ≤ a) (a1 : a ≤ 63) (w0 : 0 ≤ w) (w1 : w ≤ 63) (k0 : 0 ≤ k) (k1 : k ≤ 63)
   (t1 : decide (64 - a < w) = b1) (e1 : (bif b1 then 64 - a else w) = wd) (t2 : decide (0 < wd) = true) (e2 : k % (wd + 1) = kd)
   (d0 : 0 ≤ kd) (d1 : kd ≤ wd) (d2 : 0 ≤ wd) (d3 : wd ≤ 64) (t3 : decide (kd < wd) = b3) (t4 : decide (kd < 64) = true)
   (s1 : u v / 2 ^ kd.toNat = u (v >>> kd.toNat)) (s2 : ∀ h, IntKind.u64.wrap (u h * 2 ^ kd.toNat) = u (h <<< kd.toNat))
   (g1 : (u (putI x a wd v) == u (putI (putI x a kd v) (a + kd) (wd - kd) (v >>> kd.toNat))) = true)
   (e3 : lw = bif b3 then getI x a kd ||| (getI x (a + kd) (wd - kd) <<< kd.toNat) else getI x a kd)
   (g2 : (u (getI x a wd) == u lw) = true) (g3 : (u (layAll [(a, wd, v)] 0#64) == u (putI 0#64 a wd v)) = true)
   (W : World) : Calls Try.prog 7 #[.int .u64 (u x), .int .u64 (u v), .agg #[.int .i64 p0, .int .i64 p1, .int .i64 p2]] W fun e W' => e = .returned (.bool true) ∧ Below W.heap.size W W' := by
  have r4 := bits_or
  cases b1 <;> cases b3 <;> simp only [cond_true, cond_false] at e1 e3 <;> subst e3 <;> first | (obtain rfl : w = wd := e1) | rw [e1] at t1
  all_goals
    go_enter Try.func7, Try.ntmps7
    go_wp2_with fail
    go_quiet (fail)
    go_wp2_with (first | (go_at_call 13; (with_reducible refine (put_0 _ _ _ _).mono ?_); rintro e w' ⟨rfl, ⟨nd, rfl⟩⟩) | (go_at_call 13; (with_reducible refine (put_c _ _ _ _ _).mono ?_); rintro e w' ⟨rfl, ⟨nd, rfl⟩⟩) | (go_at_call 14; (with_reducible refine (get_171 _).mono ?_); rintro e w' ⟨rfl, ⟨nd, rfl⟩⟩) | (go_at_call 14; (with_reducible refine (get_c _ _ _ _).mono ?_); rintro e w' ⟨rfl, ⟨nd, rfl⟩⟩))
    (go_at_call 17; first | (with_reducible refine (lay [(a, wd, v)] _ _ _ (by simp) ?hp 1 rfl).mono ?_) | (with_reducible refine (lay [(a, w, v)] _ _ _ (by simp) ?hp 1 rfl).mono ?_))
    case hp => exact parts_one _ _ _ _ _ (by simp)
    rintro e w' ⟨rfl, hb⟩
    go_wp2_with (first | (go_at_call 13; (with_reducible refine (put_0 _ _ _ _).mono ?_); rintro e w' ⟨rfl, ⟨nd, rfl⟩⟩) | (go_at_call 13; (with_reducible refine (put_c _ _ _ _ _).mono ?_); rintro e w' ⟨rfl, ⟨nd, rfl⟩⟩) | (go_at_call 14; (with_reducible refine (get_171 _).mono ?_); rintro e w' ⟨rfl, ⟨nd, rfl⟩⟩) | (go_at_call 14; (with_reducible refine (get_c _ _ _ _).mono ?_); rintro e w' ⟨rfl, ⟨nd, rfl⟩⟩))
    go_ret
    refine ⟨rfl, below_drewN (Below.trans ?_ (hb.mono (by simp; omega))) _⟩
    exact (below_drewN ((Below.refl _ _).alloc (Nat.le_refl _) _) _).alloc (by simp) _
set_option maxRecDepth 100000 in
set_option maxHeartbeats 1000000 in
theorem steps0 (x v : BitVec 64) (p0 p1 p2 a w : Int)
   (ha : Go.bits .and .i64 p0 63 = a) (hw : Go.bits .and .i64 p1 63 = w) (a0 : 0 ≤ a) (a1 : a ≤ 63) (w0 : 0 ≤ w) (w1 : w ≤ 63)
   (t1 : decide (64 - a < w) = false) (t2 : decide (0 < w) = false)
   (g1 : (u (putI x a w v) == u (putI (putI x a 0 v) a w v)) = true)
   (g2 : (u (getI x a w) == u (getI x a 0)) = true) (g3 : (u (layAll [(a, w, v)] 0#64) == u (putI 0#64 a w v)) = true)
   (W : World) : Calls Try.prog 7 #[.int .u64 (u x), .int .u64 (u v), .agg #[.int .i64 p0, .int .i64 p1, .int .i64 p2]] W fun e W' => e = .returned (.bool true) ∧ Below W.heap.size W W' := by
  go_enter Try.func7, Try.ntmps7
  go_wp2_with fail
  go_quiet (fail)
  go_wp2_with (first | (go_at_call 13; (with_reducible refine (put_0 _ _ _ _).mono ?_); rintro e w' ⟨rfl, ⟨nd, rfl⟩⟩) | (go_at_call 13; (with_reducible refine (put_c _ _ _ _ _).mono ?_); rintro e w' ⟨rfl, ⟨nd, rfl⟩⟩) | (go_at_call 14; (with_reducible refine (get_171 _).mono ?_); rintro e w' ⟨rfl, ⟨nd, rfl⟩⟩) | (go_at_call 14; (with_reducible refine (get_c _ _ _ _).mono ?_); rintro e w' ⟨rfl, ⟨nd, rfl⟩⟩))
  (go_at_call 17; (with_reducible refine (lay [(a, w, v)] _ _ _ (by simp) ?hp 1 rfl).mono ?_))
  case hp => exact parts_one _ _ _ _ _ (by simp)
  rintro e w' ⟨rfl, hb⟩
  go_wp2_with (first | (go_at_call 13; (with_reducible refine (put_0 _ _ _ _).mono ?_); rintro e w' ⟨rfl, ⟨nd, rfl⟩⟩) | (go_at_call 13; (with_reducible refine (put_c _ _ _ _ _).mono ?_); rintro e w' ⟨rfl, ⟨nd, rfl⟩⟩) | (go_at_call 14; (with_reducible refine (get_171 _).mono ?_); rintro e w' ⟨rfl, ⟨nd, rfl⟩⟩) | (go_at_call 14; (with_reducible refine (get_c _ _ _ _).mono ?_); rintro e w' ⟨rfl, ⟨nd, rfl⟩⟩))
  go_ret
  refine ⟨rfl, below_drewN (Below.trans ?_ (hb.mono (by simp; omega))) _⟩
  exact (below_drewN ((Below.refl _ _).alloc (Nat.le_refl _) _) _).alloc (by simp) _

theorem low6 (p : BitVec 64) : ∃ n : Nat, n ≤ 63 ∧ Go.bits .and .i64 (s p) 63 = (n : Int) := by
  rw [show (63 : Int) = s 63#64 from rfl, bits_andi]
  have h : (p &&& 63#64).toNat ≤ 63 := by rw [BitVec.toNat_and]; exact Nat.and_le_right
  exact ⟨_, h, by unfold s; rw [BitVec.toInt_eq_toNat_of_lt (by omega)]⟩
theorem putI_n (x : BitVec 64) (a w : Nat) (v : BitVec 64) (h : a + w ≤ 64) : putI x a w v = put x a w v := by
  unfold putI; rw [if_pos (show mayB a w = true from decide_eq_true (by omega)), Int.toNat_natCast, Int.toNat_natCast]
theorem getI_n (x : BitVec 64) (a w : Nat) (h : a + w ≤ 64) : getI x a w = Bits.get x a w := by
  unfold getI; rw [if_pos (show mayB a w = true from decide_eq_true (by omega)), Int.toNat_natCast, Int.toNat_natCast]
/-- The width that a field has at most. -/
theorem short (a w : Nat) (ha : a ≤ 63) : ∃ d : Nat, a + d ≤ 64 ∧ (bif decide (64 - (a : Int) < w) then 64 - (a : Int) else w) = (d : Int) := by
  by_cases h : 64 - (a : Int) < w
  · exact ⟨64 - a, by omega, by rw [decide_eq_true h]; simp only [cond_true]; omega⟩
  · exact ⟨w, by omega, by rw [decide_eq_false h]; rfl⟩
theorem get_zero (x : BitVec 64) (a : Nat) : Bits.get x a 0 = 0#64 := by
  apply ext; intro i hi; rw [get_bit _ _ _ _ (by omega)]; simp
theorem put_zero (x : BitVec 64) (a : Nat) (v : BitVec 64) : put x a 0 v = x := by
  apply ext; intro i hi; rw [put_bit _ _ _ _ _ (by omega) hi, if_neg (by omega)]
theorem main (x v q0 q1 q2 : BitVec 64) (W : World) : Calls Try.prog 7 #[.int .u64 (u x), .int .u64 (u v), .agg #[.int .i64 (s q0), .int .i64 (s q1), .int .i64 (s q2)]] W fun e W' => e = .returned (.bool true) ∧ Below W.heap.size W W' := by
  obtain ⟨a, ha, ea⟩ := low6 q0
  obtain ⟨w, hw, ew⟩ := low6 q1
  obtain ⟨k, hk, ek⟩ := low6 q2
  obtain ⟨d, h1, e1⟩ := short a w ha
  have g3 : ∀ b : Int, (u (layAll [((a : Int), b, v)] 0#64) == u (putI 0#64 a b v)) = true := fun b => by simp [layAll]
  by_cases h2 : 0 < d
  · obtain ⟨m, hm⟩ : ∃ m, m = k % (d + 1) := ⟨_, rfl⟩
    have hmd : m ≤ d := by have := Nat.mod_lt k (show d + 1 > 0 by omega); omega
    have hmk : m ≤ k := by rw [hm]; exact Nat.mod_le _ _
    have hmi : (k : Int) % ((d : Int) + 1) = (m : Int) := by rw [hm, Int.natCast_emod]; simp
    refine steps x v _ _ _ _ a w k d m _ _ ea ew ek (by omega) (by omega) (by omega) (by omega) (by omega) (by omega) rfl e1 (decide_eq_true (by omega)) hmi (by omega) (by omega) (by omega) (by omega) rfl
      (decide_eq_true (by omega)) ?_ ?_ ?_ rfl ?_ (g3 _) W
    · unfold u; rw [Int.toNat_natCast, BitVec.toNat_ushiftRight, Nat.shiftRight_eq_div_pow]; simp
    · intro h
      rw [Int.toNat_natCast]
      have := shl_u h (m : Int)
      unfold shl at this
      rw [Int.toNat_natCast, Nat.min_eq_left (show m ≤ IntKind.u64.bits by show m ≤ 64; omega)] at this; exact this
    · rw [show (a : Int) + (m : Int) = ((a + m : Nat) : Int) by omega, show (d : Int) - (m : Int) = ((d - m : Nat) : Int) by omega, Int.toNat_natCast,
        putI_n _ _ _ _ h1, putI_n _ _ _ _ (by omega), putI_n _ _ _ _ (by omega), put_parts _ _ _ _ _ h1 hmd]; simp
    · by_cases h3 : m < d
      · rw [decide_eq_true (by omega), cond_true, show (a : Int) + (m : Int) = ((a + m : Nat) : Int) by omega, show (d : Int) - (m : Int) = ((d - m : Nat) : Int) by omega, Int.toNat_natCast,
          getI_n _ _ _ h1, getI_n _ _ _ (by omega), getI_n _ _ _ (by omega), ← get_parts _ _ _ _ h1 h3]; simp
      · rw [decide_eq_false (by omega), cond_false, show m = d by omega]; simp
  · have hw0 : w = 0 := by
      by_cases h : 64 - (a : Int) < w
      · rw [decide_eq_true h, cond_true] at e1; omega
      · rw [decide_eq_false h, cond_false] at e1; omega
    subst hw0
    refine steps0 x v _ _ _ a (0 : Nat) ea ew (by omega) (by omega) (by omega) (by omega) (decide_eq_false (by omega)) rfl ?_ ?_ (g3 _) W
    · rw [show (0 : Int) = ((0 : Nat) : Int) from rfl, putI_n _ _ _ _ (by omega), putI_n _ _ _ _ (by omega), put_zero, put_zero]; simp
    · simp
theorem walk (W : World) (base : Nat) (v0 v1 v2 : Value) (o0 : Value.okWide Try.prog W .any base 22 v0) (o1 : Value.okWide Try.prog W .any base 22 v1) (o2 : Value.okWide Try.prog W .any base 40 v2) :
    Calls Try.prog 7 #[v0, v1, v2] W fun e W' => e = .returned (.bool true) ∧ Below W.heap.size W W' := by
  obtain ⟨x, rfl⟩ := val_u64 Try.underlying22 o0
  obtain ⟨v, rfl⟩ := val_u64 Try.underlying22 o1
  obtain ⟨q0, q1, q2, rfl⟩ := val_arr3 Try.underlying40 Try.underlying3 (by kernel_rfl) (by kernel_rfl) o2
  exact main x v q0 q1 q2 W
end Go.Proofs.Ytfhigpmpngfkbaa.FieldPartsW
