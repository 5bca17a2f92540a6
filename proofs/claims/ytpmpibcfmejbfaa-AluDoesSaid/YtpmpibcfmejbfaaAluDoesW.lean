/- Any instruction makes the document's number of any two, or none; takes a branch, or not; and has its width: the statement's function answers true. No condition but that the arguments are of their types. -/
import Derived.Test.YtpmpibcfmejbfaaAluRefC
import Derived.Test.YtpmpibcfmejbfaaOpen
import Derived.WalkSmall
namespace Go.Proofs.Ytpmpibcfmejbfaa.AluDoesW
open Go.RowKit Go.Proofs.YtpmpibcfmejbfaaW.PrintWords Go.Proofs.YtpmpibcfmejbfaaW.PrintLast Go.Proofs.YtpmpibcfmejbfaaW.PrintMore Go.Proofs.Ytpmpibcfmejbfaa.Bits Go.Proofs.Ytpmpibcfmejbfaa.Alu Go.Proofs.Ytpmpibcfmejbfaa.Opens
set_option maxRecDepth 100000 in
set_option maxHeartbeats 8000000 in
theorem steps (op : Int) (a b : BitVec 64) (c1 c2 c3 c4 c5 c6 c7 c8 : Bool) (g1 : decide (11 ≤ op) = c1) (g2 : decide (op ≤ 17) = c2) (g3 : decide (18 ≤ op) = c3) (g4 : decide (op ≤ 21) = c4)
    (g5 : decide (5 ≤ op) = c5) (g6 : decide (op ≤ 10) = c6) (g7 : decide (22 ≤ op) = c7) (g8 : decide (op ≤ 30) = c8)
    (hc : (c1, c2, c3, c4, c5, c6, c7, c8) = (false, true, false, true, false, true, false, true) ∨ (c1, c2, c3, c4, c5, c6, c7, c8) = (false, true, false, true, true, true, false, true) ∨
      (c1, c2, c3, c4, c5, c6, c7, c8) = (true, true, false, true, true, false, false, true) ∨ (c1, c2, c3, c4, c5, c6, c7, c8) = (true, false, true, true, true, false, false, true) ∨
      (c1, c2, c3, c4, c5, c6, c7, c8) = (true, false, true, false, true, false, true, true) ∨ (c1, c2, c3, c4, c5, c6, c7, c8) = (true, false, true, false, true, false, true, false)) (W : World) :
    Calls Try.prog 7 #[.int .i64 op, .int .u64 (u a), .int .u64 (u b)] W fun e W' => e = .returned (.bool true) ∧ Below W.heap.size W W' := by
  have l1 : lB op = (c1 && c2) := by unfold lB; rw [g1, g2]
  have l2 : sB op = (c3 && c4) := by unfold sB; rw [g3, g4]
  have l3 : bB op = (c5 && c6) := by unfold bB; rw [g5, g6]
  have l4 : iB op = (c7 && c8) := by unfold iB; rw [g7, g8]
  have h2 : ∀ c : Bool, (c == c) = true := fun c => by cases c <;> rfl
  rcases hc with hc | hc | hc | hc | hc | hc <;> (injection hc with d1 hc; injection hc with d2 hc; injection hc with d3 hc; injection hc with d4 hc; injection hc with d5 hc; injection hc with d6 hc; injection hc with d7 d8; subst d1; subst d2; subst d3; subst d4; subst d5; subst d6; subst d7; subst d8; simp only [Bool.and_true, Bool.and_false] at l1 l2 l3 l4)
  all_goals
    go_enter Try.func7, Try.ntmps7
    go_wp2_with (first | (go_at_call 12; (with_reducible refine (do_c _ _ _ _).mono ?_); rintro e w' ⟨rfl, ⟨nd, rfl⟩⟩) | (go_at_call 17; (with_reducible refine (rdo_c _ _ _ _).mono ?_); rintro e w' ⟨rfl, ⟨nd, rfl⟩⟩))
    (go_at_call 14; (with_reducible refine (takes_c _ _ _ _).mono ?_))
    rintro e w1 ⟨rfl, hb1⟩
    go_wp2_with (first | (go_at_call 18; (with_reducible refine (rtakes_c _ _ _ _).mono ?_); rintro e w' ⟨rfl, ⟨nd, rfl⟩⟩))
    (go_at_call 15; (with_reducible refine (width_c _ _).mono ?_))
    rintro e w2 ⟨rfl, hb2⟩
    go_wp2_with (first | (go_at_call 19; (with_reducible refine (rwidth_c _ _).mono ?_); rintro e w' ⟨rfl, ⟨nd, rfl⟩⟩))
    (go_at_call 16; (with_reducible refine (extend_c _ _ _).mono ?_))
    rintro e w3 ⟨rfl, hb3⟩
    have s1 := hb1.size
    have s2 := hb2.size
    simp at s1 s2
    have gg : Below W.heap.size W w3 := ((below_drewN (Below.refl _ _) _).trans (hb1.mono (by simp))).trans ((below_drewN (Below.refl _ _) _).trans ((hb2.mono (by simp; omega)).trans ((below_drewN (Below.refl _ _) _).trans (hb3.mono (by simp; omega)))))
    clear hb1 hb2 hb3
    go_wp2_with (first | (go_at_call 20; (with_reducible refine (rextend_c _ _ _).mono ?_); rintro e w' ⟨rfl, ⟨nd, rfl⟩⟩) | (go_at_call 21; (with_reducible refine (Loads_c _ _).mono ?_); rintro e w' ⟨rfl, ⟨nd, rfl⟩⟩) | (go_at_call 22; (with_reducible refine (Stores_c _ _).mono ?_); rintro e w' ⟨rfl, ⟨nd, rfl⟩⟩) | (go_at_call 23; (with_reducible refine (Branches_c _ _).mono ?_); rintro e w' ⟨rfl, ⟨nd, rfl⟩⟩) | (go_at_call 24; (with_reducible refine (Immediate_c _ _).mono ?_); rintro e w' ⟨rfl, ⟨nd, rfl⟩⟩) | (go_at_call 13; (with_reducible refine (one_c _).mono ?_); rintro e w' ⟨rfl, ⟨nd, rfl⟩⟩))
    go_ret
    exact ⟨rfl, below_drewN gg _⟩
theorem walk (W : World) (base : Nat) (v0 v1 v2 : Value) (o0 : Value.okWide Try.prog W .any base 3 v0) (o1 : Value.okWide Try.prog W .any base 22 v1) (o2 : Value.okWide Try.prog W .any base 22 v2) :
    Calls Try.prog 7 #[v0, v1, v2] W fun e W' => e = .returned (.bool true) ∧ Below W.heap.size W W' := by
  obtain ⟨op, rfl, _⟩ := val_int Try.underlying3 o0
  obtain ⟨x, rfl⟩ := val_u64 Try.underlying22 o1
  obtain ⟨y, rfl⟩ := val_u64 Try.underlying22 o2
  refine steps op x y _ _ _ _ _ _ _ _ rfl rfl rfl rfl rfl rfl rfl rfl ?_ W
  have h : op < 5 ∨ (5 ≤ op ∧ op ≤ 10) ∨ (11 ≤ op ∧ op ≤ 17) ∨ (18 ≤ op ∧ op ≤ 21) ∨ (22 ≤ op ∧ op ≤ 30) ∨ 30 < op := by omega
  have T : ∀ {p : Prop} [Decidable p], p → decide p = true := fun h => decide_eq_true h
  have F : ∀ {p : Prop} [Decidable p], ¬ p → decide p = false := fun h => decide_eq_false h
  rcases h with h | h | h | h | h | h
  · left; rw [F (by omega : ¬ 11 ≤ op), T (by omega : op ≤ 17), F (by omega : ¬ 18 ≤ op), T (by omega : op ≤ 21), F (by omega : ¬ 5 ≤ op), T (by omega : op ≤ 10), F (by omega : ¬ 22 ≤ op), T (by omega : op ≤ 30)]
  · right; left; rw [F (by omega : ¬ 11 ≤ op), T (by omega : op ≤ 17), F (by omega : ¬ 18 ≤ op), T (by omega : op ≤ 21), T (by omega : 5 ≤ op), T (by omega : op ≤ 10), F (by omega : ¬ 22 ≤ op), T (by omega : op ≤ 30)]
  · right; right; left; rw [T (by omega : 11 ≤ op), T (by omega : op ≤ 17), F (by omega : ¬ 18 ≤ op), T (by omega : op ≤ 21), T (by omega : 5 ≤ op), F (by omega : ¬ op ≤ 10), F (by omega : ¬ 22 ≤ op), T (by omega : op ≤ 30)]
  · right; right; right; left; rw [T (by omega : 11 ≤ op), F (by omega : ¬ op ≤ 17), T (by omega : 18 ≤ op), T (by omega : op ≤ 21), T (by omega : 5 ≤ op), F (by omega : ¬ op ≤ 10), F (by omega : ¬ 22 ≤ op), T (by omega : op ≤ 30)]
  · right; right; right; right; left; rw [T (by omega : 11 ≤ op), F (by omega : ¬ op ≤ 17), T (by omega : 18 ≤ op), F (by omega : ¬ op ≤ 21), T (by omega : 5 ≤ op), F (by omega : ¬ op ≤ 10), T (by omega : 22 ≤ op), T (by omega : op ≤ 30)]
  · right; right; right; right; right; rw [T (by omega : 11 ≤ op), F (by omega : ¬ op ≤ 17), T (by omega : 18 ≤ op), F (by omega : ¬ op ≤ 21), T (by omega : 5 ≤ op), F (by omega : ¬ op ≤ 10), T (by omega : 22 ≤ op), F (by omega : ¬ op ≤ 30)]
end Go.Proofs.Ytpmpibcfmejbfaa.AluDoesW
