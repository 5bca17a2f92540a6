/- The widths and the extensions of the reference: what it answers, as one function. No condition. -/
import Derived.Test.YtpmpibcfmejbfaaAluDoesC
namespace Go.Proofs.Ytpmpibcfmejbfaa.Alu
open Go.RowKit Go.Proofs.YtpmpibcfmejbfaaW.PrintWords Go.Proofs.YtpmpibcfmejbfaaW.PrintLast Go.Proofs.YtpmpibcfmejbfaaW.PrintMore Go.Proofs.Ytpmpibcfmejbfaa.Bits
set_option linter.unusedSimpArgs false
theorem rwidth_11 : PAluDoes.mintmarkref15_Width.f 66 11 = some (wV 11) := by
  rw [show wV 11 = 1 by decide]; simp only [PAluDoes.mintmarkref15_Width.f, PAluDoes.mintmarkref15_Width.j0, Int.reduceEq, Int.reduceBEq, if_true, if_false, Bool.false_eq_true]
theorem rwidth_12 : PAluDoes.mintmarkref15_Width.f 66 12 = some (wV 12) := by
  rw [show wV 12 = 2 by decide]; simp only [PAluDoes.mintmarkref15_Width.f, PAluDoes.mintmarkref15_Width.j0, PAluDoes.mintmarkref15_Width.j1, Int.reduceEq, Int.reduceBEq, if_true, if_false, Bool.false_eq_true]
theorem rwidth_13 : PAluDoes.mintmarkref15_Width.f 66 13 = some (wV 13) := by
  rw [show wV 13 = 4 by decide]; simp only [PAluDoes.mintmarkref15_Width.f, PAluDoes.mintmarkref15_Width.j0, PAluDoes.mintmarkref15_Width.j1, PAluDoes.mintmarkref15_Width.j2, Int.reduceEq, Int.reduceBEq, if_true, if_false, Bool.false_eq_true]
theorem rwidth_14 : PAluDoes.mintmarkref15_Width.f 66 14 = some (wV 14) := by
  rw [show wV 14 = 8 by decide]; simp only [PAluDoes.mintmarkref15_Width.f, PAluDoes.mintmarkref15_Width.j0, PAluDoes.mintmarkref15_Width.j1, PAluDoes.mintmarkref15_Width.j2, PAluDoes.mintmarkref15_Width.j3, Int.reduceEq, Int.reduceBEq, if_true, if_false, Bool.false_eq_true]
theorem rwidth_15 : PAluDoes.mintmarkref15_Width.f 66 15 = some (wV 15) := by
  rw [show wV 15 = 1 by decide]; simp only [PAluDoes.mintmarkref15_Width.f, PAluDoes.mintmarkref15_Width.j0, Int.reduceEq, Int.reduceBEq, if_true, if_false, Bool.false_eq_true]
theorem rwidth_16 : PAluDoes.mintmarkref15_Width.f 66 16 = some (wV 16) := by
  rw [show wV 16 = 2 by decide]; simp only [PAluDoes.mintmarkref15_Width.f, PAluDoes.mintmarkref15_Width.j0, PAluDoes.mintmarkref15_Width.j1, Int.reduceEq, Int.reduceBEq, if_true, if_false, Bool.false_eq_true]
theorem rwidth_17 : PAluDoes.mintmarkref15_Width.f 66 17 = some (wV 17) := by
  rw [show wV 17 = 4 by decide]; simp only [PAluDoes.mintmarkref15_Width.f, PAluDoes.mintmarkref15_Width.j0, PAluDoes.mintmarkref15_Width.j1, PAluDoes.mintmarkref15_Width.j2, Int.reduceEq, Int.reduceBEq, if_true, if_false, Bool.false_eq_true]
theorem rwidth_18 : PAluDoes.mintmarkref15_Width.f 66 18 = some (wV 18) := by
  rw [show wV 18 = 1 by decide]; simp only [PAluDoes.mintmarkref15_Width.f, PAluDoes.mintmarkref15_Width.j0, Int.reduceEq, Int.reduceBEq, if_true, if_false, Bool.false_eq_true]
theorem rwidth_19 : PAluDoes.mintmarkref15_Width.f 66 19 = some (wV 19) := by
  rw [show wV 19 = 2 by decide]; simp only [PAluDoes.mintmarkref15_Width.f, PAluDoes.mintmarkref15_Width.j0, PAluDoes.mintmarkref15_Width.j1, Int.reduceEq, Int.reduceBEq, if_true, if_false, Bool.false_eq_true]
theorem rwidth_20 : PAluDoes.mintmarkref15_Width.f 66 20 = some (wV 20) := by
  rw [show wV 20 = 4 by decide]; simp only [PAluDoes.mintmarkref15_Width.f, PAluDoes.mintmarkref15_Width.j0, PAluDoes.mintmarkref15_Width.j1, PAluDoes.mintmarkref15_Width.j2, Int.reduceEq, Int.reduceBEq, if_true, if_false, Bool.false_eq_true]
theorem rwidth_21 : PAluDoes.mintmarkref15_Width.f 66 21 = some (wV 21) := by
  rw [show wV 21 = 8 by decide]; simp only [PAluDoes.mintmarkref15_Width.f, PAluDoes.mintmarkref15_Width.j0, PAluDoes.mintmarkref15_Width.j1, PAluDoes.mintmarkref15_Width.j2, PAluDoes.mintmarkref15_Width.j3, Int.reduceEq, Int.reduceBEq, if_true, if_false, Bool.false_eq_true]
theorem rwidth_43 : PAluDoes.mintmarkref15_Width.f 66 43 = some (wV 43) := by
  rw [show wV 43 = 16 by decide]; simp only [PAluDoes.mintmarkref15_Width.f, PAluDoes.mintmarkref15_Width.j0, PAluDoes.mintmarkref15_Width.j1, PAluDoes.mintmarkref15_Width.j2, PAluDoes.mintmarkref15_Width.j3, Int.reduceEq, Int.reduceBEq, if_true, if_false, Bool.false_eq_true]
theorem rwidth_44 : PAluDoes.mintmarkref15_Width.f 66 44 = some (wV 44) := by
  rw [show wV 44 = 16 by decide]; simp only [PAluDoes.mintmarkref15_Width.f, PAluDoes.mintmarkref15_Width.j0, PAluDoes.mintmarkref15_Width.j1, PAluDoes.mintmarkref15_Width.j2, PAluDoes.mintmarkref15_Width.j3, Int.reduceEq, Int.reduceBEq, if_true, if_false, Bool.false_eq_true]
theorem rwidth_other (op : Int) (h : (op < 11 ∨ 21 < op) ∧ op ≠ 43 ∧ op ≠ 44) : PAluDoes.mintmarkref15_Width.f 66 op = some (wV op) := by
  rw [wV_other op h]
  have n : ¬ op = 11 ∧ ¬ op = 12 ∧ ¬ op = 13 ∧ ¬ op = 14 ∧ ¬ op = 15 ∧ ¬ op = 16 ∧ ¬ op = 17 ∧ ¬ op = 18 ∧ ¬ op = 19 ∧ ¬ op = 20 ∧ ¬ op = 21 ∧ ¬ op = 43 ∧ ¬ op = 44 := by omega
  have m : (op == 11) = false ∧ (op == 12) = false ∧ (op == 13) = false ∧ (op == 14) = false ∧ (op == 15) = false ∧ (op == 16) = false ∧ (op == 17) = false ∧ (op == 18) = false ∧ (op == 19) = false ∧ (op == 20) = false ∧ (op == 21) = false ∧ (op == 43) = false ∧ (op == 44) = false := by simp only [beq_eq_false_iff_ne]; omega
  obtain ⟨n11, n12, n13, n14, n15, n16, n17, n18, n19, n20, n21, n43, n44⟩ := n
  obtain ⟨m11, m12, m13, m14, m15, m16, m17, m18, m19, m20, m21, m43, m44⟩ := m
  simp only [PAluDoes.mintmarkref15_Width.f, PAluDoes.mintmarkref15_Width.j0, PAluDoes.mintmarkref15_Width.j1, PAluDoes.mintmarkref15_Width.j2, PAluDoes.mintmarkref15_Width.j3, n11, n12, n13, n14, n15, n16, n17, n18, n19, n20, n21, n43, n44, m11, m12, m13, m14, m15, m16, m17, m18, m19, m20, m21, m43, m44, if_false, Bool.false_eq_true]
theorem rwidth_eq (op : Int) : PAluDoes.mintmarkref15_Width.f 66 op = some (wV op) := by
  rcases w_cases op with rfl | rfl | rfl | rfl | rfl | rfl | rfl | rfl | rfl | rfl | rfl | rfl | rfl | h
  · exact rwidth_11
  · exact rwidth_12
  · exact rwidth_13
  · exact rwidth_14
  · exact rwidth_15
  · exact rwidth_16
  · exact rwidth_17
  · exact rwidth_18
  · exact rwidth_19
  · exact rwidth_20
  · exact rwidth_21
  · exact rwidth_43
  · exact rwidth_44
  · exact rwidth_other op h
theorem rwidth_c (op : Int) (W : World) : Calls Try.prog 19 #[.int .i64 op] W fun e W' => e = .returned (.int .i64 (wV op)) ∧ Drawn0 W W' :=
  PAluDoes.mintmarkref15_Width.calls 66 op _ W (rwidth_eq op)
theorem rextend_eq (op : Int) (v : BitVec 64) : PAluDoes.mintmarkref15_Extend.f 67 op (u v) = some (u (eV op v)) := by
  have hw := rwidth_eq op
  have hr := wV_range op
  have e8 : wrap64 (8 * wV op) = 8 * wV op := by unfold wrap64; omega
  have hg : PAluDoes.mintmarkref01_Get.f 66 (u v) 0 (8 * wV op) = some (u (getI v 0 (8 * wV op))) := PAluDoes.mintmarkref01_Get.mono (u v) 0 (8 * wV op) 65 _ (PAluDoes.mintmarkref01_Get.eq v 0 (8 * wV op))
  have hs := PAluDoes.mintmarkref01_Sign.eq v (8 * wV op)
  have hj : ∀ c, PAluDoes.mintmarkref15_Extend.j0 67 op (u v) c = if c = true then some 0 else (if op < 15 then some (u (signI v (8 * wV op))) else some (u (getI v 0 (8 * wV op)))) := by
    intro c
    simp only [PAluDoes.mintmarkref15_Extend.j0]
    rw [hw]; simp only [Option.bind_some]; rw [e8, hs, hg]; simp only [Option.bind_some]
  unfold PAluDoes.mintmarkref15_Extend.f eV
  rw [hj, hj]
  by_cases h1 : op < 11
  · rw [if_pos h1, if_pos rfl, if_neg (by omega), if_neg (by omega)]; rfl
  · rw [if_neg h1]
    by_cases h2 : op > 17
    · rw [if_pos (decide_eq_true h2), if_neg (by omega), if_neg (by omega)]; rfl
    · rw [if_neg (show ¬ (decide (op > 17) = true) by rw [decide_eq_true_eq]; exact h2)]
      by_cases h3 : op < 15
      · rw [if_pos h3, if_pos (by omega)]
      · rw [if_neg h3, if_neg (by omega), if_pos (by omega)]
theorem rextend_c (op : Int) (v : BitVec 64) (W : World) : Calls Try.prog 20 #[.int .i64 op, .int .u64 (u v)] W fun e W' => e = .returned (.int .u64 (u (eV op v))) ∧ Drawn0 W W' :=
  PAluDoes.mintmarkref15_Extend.calls 67 op _ _ W (rextend_eq op v)
end Go.Proofs.Ytpmpibcfmejbfaa.Alu
