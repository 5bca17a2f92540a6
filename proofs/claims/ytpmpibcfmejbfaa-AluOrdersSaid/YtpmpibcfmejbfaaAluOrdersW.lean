/- Of any two numbers just one is below the other, or they are the same, with a sign and without; and a branch is taken just if its counterpart is not: the statement's function answers true. No condition but that the arguments are of their types. -/
import Derived.Test.YtpmpibcfmejbfaaAluTakesC
import Derived.Test.YtpmpibcfmejbfaaOpen
import Derived.WalkSmall
namespace Go.Proofs.Ytpmpibcfmejbfaa.AluOrdersW
open Go.RowKit Go.Proofs.YtpmpibcfmejbfaaW.PrintWords Go.Proofs.YtpmpibcfmejbfaaW.PrintLast Go.Proofs.YtpmpibcfmejbfaaW.PrintMore Go.Proofs.Ytpmpibcfmejbfaa.Bits Go.Proofs.Ytpmpibcfmejbfaa.Alu Go.Proofs.Ytpmpibcfmejbfaa.Opens
theorem bel {B : Nat} {W w w' : World} (h : Below B W w) (hB : B ≤ w.heap.size) (h' : Below w.heap.size w w') : Below B W w' := h.trans (h'.mono hB)
set_option maxRecDepth 100000 in
set_option maxHeartbeats 2000000 in
theorem steps_ne (a b : BitVec 64) (c1 c4 : Bool) (h1 : decide (s a < s b) = c1) (h2 : decide (s b < s a) = !c1) (h3 : (u a == u b) = false) (h6 : (u a != u b) = true)
    (h4 : decide (u a < u b) = c4) (h5 : decide (u b < u a) = !c4)
    (W : World) : Calls Try.prog 5 #[.int .u64 (u a), .int .u64 (u b)] W fun e W' => e = .returned (.bool true) ∧ Below W.heap.size W W' := by
  have b1 : u (bit true) = 1 := rfl
  have b0 : u (bit false) = 0 := rfl
  cases c1 <;> cases c4 <;> simp only [Bool.not_true, Bool.not_false] at h2 h5
  all_goals
    go_enter Try.func5, Try.ntmps5
    go_wp2_with fail
    (go_at_call 14; (with_reducible refine (takes_5 _ _ _).mono ?_))
    rintro e w1 ⟨rfl, hb1⟩
    go_wp2_with fail
    (go_at_call 14; (with_reducible refine (takes_6 _ _ _).mono ?_))
    rintro e w2 ⟨rfl, hb2⟩
    go_wp2_with fail
    have hs1 := hb1.size
    have hs2 := hb2.size
    have hbel := bel hb1 hs1 hb2
    clear hb1 hb2
    go_loopw [9] (fun i wr => ∃ k : Nat, k ≤ 2 ∧ i = .int .i64 k ∧ Below W.heap.size W wr) (fun i _ => 2 - (intOf i).toNat)
    case atStart => exact ⟨0, by omega, rfl, hbel⟩
    case round =>
      obtain ⟨k, hk, rfl, hr⟩ := hrel
      have hz := hr.size
      have hk3 : k = 0 ∨ k = 1 ∨ k = 2 := by omega
      rcases hk3 with rfl | rfl | rfl
      · go_wp2_with fail
        (go_at_call 14; (with_reducible refine (takes_7 _ _ _).mono ?_))
        rintro e w3 ⟨rfl, hb3⟩
        go_wp2_with fail
        (go_at_call 14; (with_reducible refine (takes_8 _ _ _).mono ?_))
        rintro e w4 ⟨rfl, hb4⟩
        go_wp2_with fail
        (go_at_call 14; (with_reducible refine (takes_7 _ _ _).mono ?_))
        rintro e w5 ⟨rfl, hb5⟩
        go_wp2_with fail
        (go_at_call 12; (with_reducible refine (do_34 _ _ _).mono ?_); rintro e w' ⟨rfl, ⟨nd, rfl⟩⟩)
        have g3 := hb3.size
        have g4 := hb4.size
        have g5 := bel (bel (bel hr hz hb3) (by omega) hb4) (by omega) hb5
        clear hb3 hb4 hb5
        go_wp2_with fail
        go_roundw
        case rel => exact ⟨1, by omega, by go_num, below_drewN g5 _⟩
        case measure => simp [intOf]
      · go_wp2_with fail
        (go_at_call 14; (with_reducible refine (takes_9 _ _ _).mono ?_))
        rintro e w3 ⟨rfl, hb3⟩
        go_wp2_with fail
        (go_at_call 14; (with_reducible refine (takes_10 _ _ _).mono ?_))
        rintro e w4 ⟨rfl, hb4⟩
        go_wp2_with fail
        (go_at_call 14; (with_reducible refine (takes_9 _ _ _).mono ?_))
        rintro e w5 ⟨rfl, hb5⟩
        go_wp2_with fail
        (go_at_call 12; (with_reducible refine (do_35 _ _ _).mono ?_); rintro e w' ⟨rfl, ⟨nd, rfl⟩⟩)
        have g3 := hb3.size
        have g4 := hb4.size
        have g5 := bel (bel (bel hr hz hb3) (by omega) hb4) (by omega) hb5
        clear hb3 hb4 hb5
        go_wp2_with fail
        go_roundw
        case rel => exact ⟨2, by omega, by go_num, below_drewN g5 _⟩
        case measure => simp [intOf]
      · go_wp2_with (first | (go_at_call 13; (with_reducible refine (one_c _).mono ?_); rintro e w' ⟨rfl, ⟨nd, rfl⟩⟩))
        go_ret
        exact ⟨rfl, below_drewN hr _⟩
set_option maxRecDepth 100000 in
set_option maxHeartbeats 2000000 in
theorem steps_eq (a b : BitVec 64) (h1 : decide (s a < s b) = false) (h2 : decide (s b < s a) = false) (h3 : (u a == u b) = true) (h6 : (u a != u b) = false)
    (h4 : decide (u a < u b) = false) (h5 : decide (u b < u a) = false)
    (W : World) : Calls Try.prog 5 #[.int .u64 (u a), .int .u64 (u b)] W fun e W' => e = .returned (.bool true) ∧ Below W.heap.size W W' := by
  have b1 : u (bit true) = 1 := rfl
  have b0 : u (bit false) = 0 := rfl
  go_enter Try.func5, Try.ntmps5
  go_wp2_with fail
  (go_at_call 14; (with_reducible refine (takes_5 _ _ _).mono ?_))
  rintro e w1 ⟨rfl, hb1⟩
  go_wp2_with fail
  (go_at_call 14; (with_reducible refine (takes_6 _ _ _).mono ?_))
  rintro e w2 ⟨rfl, hb2⟩
  go_wp2_with fail
  have hs1 := hb1.size
  have hs2 := hb2.size
  have hbel := bel hb1 hs1 hb2
  clear hb1 hb2
  go_loopw [9] (fun i wr => ∃ k : Nat, k ≤ 2 ∧ i = .int .i64 k ∧ Below W.heap.size W wr) (fun i _ => 2 - (intOf i).toNat)
  case atStart => exact ⟨0, by omega, rfl, hbel⟩
  case round =>
    obtain ⟨k, hk, rfl, hr⟩ := hrel
    have hz := hr.size
    have hk3 : k = 0 ∨ k = 1 ∨ k = 2 := by omega
    rcases hk3 with rfl | rfl | rfl
    · go_wp2_with fail
      (go_at_call 14; (with_reducible refine (takes_7 _ _ _).mono ?_))
      rintro e w3 ⟨rfl, hb3⟩
      go_wp2_with fail
      (go_at_call 14; (with_reducible refine (takes_8 _ _ _).mono ?_))
      rintro e w4 ⟨rfl, hb4⟩
      go_wp2_with fail
      (go_at_call 14; (with_reducible refine (takes_7 _ _ _).mono ?_))
      rintro e w5 ⟨rfl, hb5⟩
      go_wp2_with fail
      (go_at_call 12; (with_reducible refine (do_34 _ _ _).mono ?_); rintro e w' ⟨rfl, ⟨nd, rfl⟩⟩)
      have g3 := hb3.size
      have g4 := hb4.size
      have g5 := bel (bel (bel hr hz hb3) (by omega) hb4) (by omega) hb5
      clear hb3 hb4 hb5
      go_wp2_with fail
      go_roundw
      case rel => exact ⟨1, by omega, by go_num, below_drewN g5 _⟩
      case measure => simp [intOf]
    · go_wp2_with fail
      (go_at_call 14; (with_reducible refine (takes_9 _ _ _).mono ?_))
      rintro e w3 ⟨rfl, hb3⟩
      go_wp2_with fail
      (go_at_call 14; (with_reducible refine (takes_10 _ _ _).mono ?_))
      rintro e w4 ⟨rfl, hb4⟩
      go_wp2_with fail
      (go_at_call 14; (with_reducible refine (takes_9 _ _ _).mono ?_))
      rintro e w5 ⟨rfl, hb5⟩
      go_wp2_with fail
      (go_at_call 12; (with_reducible refine (do_35 _ _ _).mono ?_); rintro e w' ⟨rfl, ⟨nd, rfl⟩⟩)
      have g3 := hb3.size
      have g4 := hb4.size
      have g5 := bel (bel (bel hr hz hb3) (by omega) hb4) (by omega) hb5
      clear hb3 hb4 hb5
      go_wp2_with fail
      go_roundw
      case rel => exact ⟨2, by omega, by go_num, below_drewN g5 _⟩
      case measure => simp [intOf]
    · go_wp2_with (first | (go_at_call 13; (with_reducible refine (one_c _).mono ?_); rintro e w' ⟨rfl, ⟨nd, rfl⟩⟩))
      go_ret
      exact ⟨rfl, below_drewN hr _⟩
theorem main (a b : BitVec 64) (W : World) : Calls Try.prog 5 #[.int .u64 (u a), .int .u64 (u b)] W fun e W' => e = .returned (.bool true) ∧ Below W.heap.size W W' := by
  by_cases h : a = b
  · subst h
    exact steps_eq a a (decide_eq_false (by omega)) (decide_eq_false (by omega)) (by simp) (by simp) (decide_eq_false (by omega)) (decide_eq_false (by omega)) W
  · have hu : u a ≠ u b := fun e => h (u_inj e)
    have hs : s a ≠ s b := fun e => h (s_inj e)
    refine steps_ne a b _ _ rfl ?_ (by simpa using hu) (by simpa using hu) rfl ?_ W
    · by_cases h1 : s a < s b
      · rw [decide_eq_true h1, decide_eq_false (by omega)]; rfl
      · rw [decide_eq_false h1, decide_eq_true (by omega)]; rfl
    · by_cases h1 : u a < u b
      · rw [decide_eq_true h1, decide_eq_false (by omega)]; rfl
      · rw [decide_eq_false h1, decide_eq_true (by omega)]; rfl
theorem walk (W : World) (base : Nat) (v0 v1 : Value) (o0 : Value.okWide Try.prog W .any base 22 v0) (o1 : Value.okWide Try.prog W .any base 22 v1) :
    Calls Try.prog 5 #[v0, v1] W fun e W' => e = .returned (.bool true) ∧ Below W.heap.size W W' := by
  obtain ⟨x, rfl⟩ := val_u64 Try.underlying22 o0
  obtain ⟨y, rfl⟩ := val_u64 Try.underlying22 o1
  exact main x y W
end Go.Proofs.Ytpmpibcfmejbfaa.AluOrdersW
