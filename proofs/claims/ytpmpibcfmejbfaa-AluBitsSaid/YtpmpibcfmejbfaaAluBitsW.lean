/- What two numbers have, and what one has alone, and the other, are all that any has; and a number made of the others is it again: the statement's function answers true. No condition but that the arguments are of their types. -/
import Derived.Test.YtpmpibcfmejbfaaAluDoC
import Derived.Test.YtpmpibcfmejbfaaOpen
import Derived.Test.YtpmpibcfmejbfaaFieldLaws
import Derived.WalkSmall
namespace Go.Proofs.Ytpmpibcfmejbfaa.AluBitsW
open Go.RowKit Go.Proofs.YtpmpibcfmejbfaaW.PrintWords Go.Proofs.YtpmpibcfmejbfaaW.PrintLast Go.Proofs.YtpmpibcfmejbfaaW.PrintMore Go.Proofs.Ytpmpibcfmejbfaa.Bits Go.Proofs.Ytpmpibcfmejbfaa.Alu Go.Proofs.Ytpmpibcfmejbfaa.Opens
set_option maxRecDepth 100000 in
theorem steps (a b : BitVec 64) (t1 : (u (a ||| b) == u ((a &&& b) ||| (a ^^^ b))) = true) (t2 : (u ((a &&& b) &&& (a ^^^ b)) == 0) = true) (t3 : (u ((a ^^^ b) ^^^ b) == u a) = true)
    (t4 : (u ((a &&& b) + (a ||| b)) == u (a + b)) = true) (W : World) : Calls Try.prog 4 #[.int .u64 (u a), .int .u64 (u b)] W fun e W' => e = .returned (.bool true) ∧ Drawn0 W W' := by
  have r3 := bits_and
  have r4 := bits_or
  have r5 : (u (a ^^^ b) == u (a ^^^ b)) = true := by simp
  go_enter Try.func4, Try.ntmps4
  go_wp2_with (first | (go_at_call 12; (with_reducible refine (do_40 _ _ _).mono ?_); rintro e w' ⟨rfl, ⟨nd, rfl⟩⟩) | (go_at_call 12; (with_reducible refine (do_39 _ _ _).mono ?_); rintro e w' ⟨rfl, ⟨nd, rfl⟩⟩) | (go_at_call 12; (with_reducible refine (do_36 _ _ _).mono ?_); rintro e w' ⟨rfl, ⟨nd, rfl⟩⟩) | (go_at_call 12; (with_reducible refine (do_31 _ _ _).mono ?_); rintro e w' ⟨rfl, ⟨nd, rfl⟩⟩) | (go_at_call 12; (with_reducible refine (do_25 _ _ _).mono ?_); rintro e w' ⟨rfl, ⟨nd, rfl⟩⟩) | (go_at_call 13; (with_reducible refine (one_c _).mono ?_); rintro e w' ⟨rfl, ⟨nd, rfl⟩⟩))
  go_ret
  exact ⟨rfl, ⟨_, rfl⟩⟩
theorem main (a b : BitVec 64) (W : World) : Calls Try.prog 4 #[.int .u64 (u a), .int .u64 (u b)] W fun e W' => e = .returned (.bool true) ∧ Drawn0 W W' := by
  refine steps a b ?_ ?_ ?_ ?_ W
  · have : a ||| b = (a &&& b) ||| (a ^^^ b) := by
      apply ext; intro i hi; simp only [BitVec.getLsbD_or, BitVec.getLsbD_and, BitVec.getLsbD_xor]; cases a.getLsbD i <;> cases b.getLsbD i <;> rfl
    rw [this]; simp
  · have : (a &&& b) &&& (a ^^^ b) = 0#64 := by
      apply ext; intro i hi; simp only [BitVec.getLsbD_and, BitVec.getLsbD_xor, BitVec.getLsbD_zero]; cases a.getLsbD i <;> cases b.getLsbD i <;> rfl
    rw [this]; rfl
  · have : (a ^^^ b) ^^^ b = a := by
      apply ext; intro i hi; simp only [BitVec.getLsbD_xor]; cases a.getLsbD i <;> cases b.getLsbD i <;> rfl
    rw [this]; simp
  · have : (a &&& b) + (a ||| b) = a + b := by
      have e1 : a ||| b = (a &&& ~~~b) + b := by
        rw [BitVec.add_eq_or_of_and_eq_zero]
        · apply ext; intro i hi; simp only [BitVec.getLsbD_or, BitVec.getLsbD_and, BitVec.getLsbD_not, hi, decide_true, Bool.true_and]; cases a.getLsbD i <;> cases b.getLsbD i <;> rfl
        · apply ext; intro i hi; simp only [BitVec.getLsbD_and, BitVec.getLsbD_not, hi, decide_true, Bool.true_and, BitVec.getLsbD_zero]; cases a.getLsbD i <;> cases b.getLsbD i <;> rfl
      have e2 : (a &&& b) + (a &&& ~~~b) = a := by
        rw [BitVec.add_eq_or_of_and_eq_zero]
        · apply ext; intro i hi; simp only [BitVec.getLsbD_or, BitVec.getLsbD_and, BitVec.getLsbD_not, hi, decide_true, Bool.true_and]; cases a.getLsbD i <;> cases b.getLsbD i <;> rfl
        · apply ext; intro i hi; simp only [BitVec.getLsbD_and, BitVec.getLsbD_not, hi, decide_true, Bool.true_and, BitVec.getLsbD_zero]; cases a.getLsbD i <;> cases b.getLsbD i <;> rfl
      rw [e1, ← BitVec.add_assoc, e2]
    rw [this]; simp
theorem walk (W : World) (base : Nat) (v0 v1 : Value) (o0 : Value.okWide Try.prog W .any base 22 v0) (o1 : Value.okWide Try.prog W .any base 22 v1) :
    Calls Try.prog 4 #[v0, v1] W fun e W' => e = .returned (.bool true) ∧ Below W.heap.size W W' := by
  obtain ⟨x, rfl⟩ := val_u64 Try.underlying22 o0
  obtain ⟨y, rfl⟩ := val_u64 Try.underlying22 o1
  exact (main x y W).mono fun e W' ⟨he, hd⟩ => ⟨he, hd.below⟩
end Go.Proofs.Ytpmpibcfmejbfaa.AluBitsW
