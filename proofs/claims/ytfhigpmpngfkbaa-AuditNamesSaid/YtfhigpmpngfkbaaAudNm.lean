/- A number with a sign, by its digits; the kinds' names; the reference's digits: what the functions answer. The numbers are below 2^64. -/
import Derived.Test.YtfhigpmpngfkbaaAudDig
namespace Go.Proofs.Ytfhigpmpngfkbaa.Aud
open Go Go.RowKit Go.Proofs.Ytfhigpmpngfkbaa.Bits
attribute [local irreducible] Go.wpList
set_option linter.unusedVariables false
set_option linter.unusedSimpArgs false
def wholeL (x : BitVec 64) : List UInt8 := if s x < 0 then [45] ++ dig (-x).toNat else dig x.toNat
theorem dig20 (n : Nat) (h : n < 18446744073709551616) : (dig n).length ≤ 20 := dig_len 20 n (by omega) (by omega)
theorem whole_len (x : BitVec 64) : (wholeL x).length ≤ 21 := by
  unfold wholeL
  have h1 := dig20 (-x).toNat (-x).isLt
  have h2 := dig20 x.toNat x.isLt
  split
  · simp only [List.length_append, List.length_cons, List.length_nil]; omega
  · omega
theorem wrap_neg (x : BitVec 64) : IntKind.u64.wrap (0 - u x) = u (-x) := by
  rw [Int.zero_sub, wrap_int, BitVec.ofInt_neg, ofInt_u]
/-- A kind's name. -/
def nmL (k : Int) : List UInt8 := if k = 1 then [115, 104, 97, 114, 101, 100] else if k = 2 then [108, 111, 111, 115, 101] else if k = 3 then [108, 111, 115, 116] else if k = 4 then [119, 114, 111, 110, 103] else if k = 5 then [115, 116, 114, 97, 121] else if k = 6 then [115, 116, 97, 108, 101] else []
theorem nm_len (k : Int) : (nmL k).length ≤ 6 := by
  unfold nmL
  repeat' split
  all_goals simp
theorem whole_c (x : BitVec 64) (W : World) : Calls Try.prog 52 #[.int .i64 (s x)] W fun e W' => e = .returned (.string (bs (wholeL x))) ∧ K2.Mem [] W W' [] := by
  refine calls_of_wp Try.func52 rfl ?_
  have M0 : K2.Mem [] W W [] := K2.Mem.start _ _
  refine K2.to (b := ⟨#[.int .i64 (s x), undef, undef, undef, undef, undef, undef, undef, undef, undef, undef, undef, undef], []⟩) (by kernel_rfl) ?_
  refine wp_seq ?_
  refine K2.region ?_
  refine K2.pure (.string { data := #[] }) (by kernel_rfl) (by kernel_rfl) ?_
  refine K2.fin ?_
  refine K2.then_normal ?_
  refine wp_seq ?_
  refine wp_seq ?_
  refine K2.region ?_
  refine K2.pure (.int .i64 (s x)) (by kernel_rfl) (by kernel_rfl) ?_
  refine K2.pure (.bool (decide ((s x) < (0 : Int)))) (by kernel_rfl) (by kernel_rfl) ?_
  refine K2.fin ?_
  refine K2.then_normal ?_
  refine wp_cond_split (t := (decide ((s x) < (0 : Int)))) (by kernel_rfl) (fun h1 => ?_) (fun h1 => ?_)
  · skip
    refine wp_seq ?_
    refine K2.region ?_
    refine K2.pure (.int .i64 (s x)) (by kernel_rfl) (by kernel_rfl) ?_
    refine K2.pure (.int .u64 (u x)) (by kernel_rfl) (K2.eqv (v := .int .u64 (IntKind.u64.wrap (s x))) (by kernel_rfl) (congrArg (Value.int .u64) (wrap_s x))) ?_
    refine K2.pure (.int .u64 (u (-x))) (by kernel_rfl) (K2.eqv (v := .int .u64 (IntKind.u64.wrap (0 - u x))) (by kernel_rfl) (congrArg (Value.int .u64) (wrap_neg x))) ?_
    refine K2.call (.string (bs (dig (-x).toNat))) 53 #[.int .u64 (u (-x))] M0 (by kernel_rfl) (by kernel_rfl) (digits_c (-x).toNat ((-x)).isLt W) fun w2 M2 => ?_
    refine K2.pureS (Canon.opS .add 9 (.const (.string { data := #[45] })) (.tmp 8) (.string { data := #[45] }) (.string (bs (dig (-x).toNat)))) (.string (bs (([45] : List UInt8) ++ (dig (-x).toNat)))) (by kernel_rfl) (by kernel_rfl) (str_add 9 _ _ ([45] : List UInt8) (dig (-x).toNat) (by have := dig20 (-x).toNat (-x).isLt; simp only [List.length_append, List.length_cons, List.length_nil]; omega) w2) ?_
    refine K2.pure (.string (bs (([45] : List UInt8) ++ (dig (-x).toNat)))) (by kernel_rfl) (by kernel_rfl) ?_
    refine K2.fin ?_
    refine K2.then_normal ?_
    refine wp_ret ?_
    refine K2.then_ret ?_
    exact bodyPost_ret (v := .string (bs (([45] : List UInt8) ++ (dig (-x).toNat)))) (by kernel_rfl) (by kernel_rfl) ⟨congrArg (fun z => Ending.returned (Value.string (bs z))) (by unfold wholeL; simp only [decide_eq_true_eq, decide_eq_false_iff_not, beq_iff_eq, beq_eq_false_iff_ne] at *; rw [if_pos (by assumption)]), M2⟩
  · skip
    refine wp_skip ?_
    refine K2.then_normal ?_
    refine wp_seq ?_
    refine K2.region ?_
    refine K2.pure (.int .i64 (s x)) (by kernel_rfl) (by kernel_rfl) ?_
    refine K2.pure (.int .u64 (u x)) (by kernel_rfl) (K2.eqv (v := .int .u64 (IntKind.u64.wrap (s x))) (by kernel_rfl) (congrArg (Value.int .u64) (wrap_s x))) ?_
    refine K2.call (.string (bs (dig x.toNat))) 53 #[.int .u64 (u x)] M0 (by kernel_rfl) (by kernel_rfl) (digits_c x.toNat (x).isLt W) fun w3 M3 => ?_
    refine K2.pure (.string (bs (dig x.toNat))) (by kernel_rfl) (by kernel_rfl) ?_
    refine K2.fin ?_
    refine K2.then_normal ?_
    refine wp_ret ?_
    exact bodyPost_ret (v := .string (bs (dig x.toNat))) (by kernel_rfl) (by kernel_rfl) ⟨congrArg (fun z => Ending.returned (Value.string (bs z))) (by unfold wholeL; simp only [decide_eq_true_eq, decide_eq_false_iff_not, beq_iff_eq, beq_eq_false_iff_ne] at *; rw [if_neg (by assumption)]), M3⟩
theorem name_c (k : Int) (W : World) : Calls Try.prog 41 #[.int .i64 k] W fun e W' => e = .returned (.string (bs (nmL k))) ∧ K2.Mem [] W W' [] := by
  refine calls_of_wp Try.func41 rfl ?_
  have M0 : K2.Mem [] W W [] := K2.Mem.start _ _
  refine K2.to (b := ⟨#[.int .i64 k, undef, undef, undef, undef, undef, undef, undef, undef, undef, undef, undef, undef, undef, undef, undef], []⟩) (by kernel_rfl) ?_
  refine wp_seq ?_
  refine K2.region ?_
  refine K2.pure (.string { data := #[] }) (by kernel_rfl) (by kernel_rfl) ?_
  refine K2.fin ?_
  refine K2.then_normal ?_
  refine wp_seq ?_
  refine wp_seq ?_
  refine K2.region ?_
  refine K2.pure (.int .i64 k) (by kernel_rfl) (by kernel_rfl) ?_
  refine K2.fin ?_
  refine K2.then_normal ?_
  refine wp_block ?_
  refine wp_seq ?_
  refine K2.region ?_
  refine K2.pure (.bool (k == (1 : Int))) (by kernel_rfl) (by kernel_rfl) ?_
  refine K2.pure (.bool (k == (1 : Int))) (by kernel_rfl) (by kernel_rfl) ?_
  refine K2.fin ?_
  refine K2.then_normal ?_
  refine wp_cond_split (t := (k == (1 : Int))) (by kernel_rfl) (fun h1 => ?_) (fun h1 => ?_)
  · skip
    refine wp_seq ?_
    refine K2.region ?_
    refine K2.pure (.string { data := #[115, 104, 97, 114, 101, 100] }) (by kernel_rfl) (by kernel_rfl) ?_
    refine K2.fin ?_
    refine K2.then_normal ?_
    refine wp_ret ?_
    refine K2.block_ret ?_
    refine K2.then_ret ?_
    exact bodyPost_ret (v := .string { data := #[115, 104, 97, 114, 101, 100] }) (by kernel_rfl) (by kernel_rfl) ⟨congrArg (fun z => Ending.returned (Value.string (bs z))) (show ([115, 104, 97, 114, 101, 100] : List UInt8) = nmL k from by unfold nmL; simp only [decide_eq_true_eq, decide_eq_false_iff_not, beq_iff_eq, beq_eq_false_iff_ne] at *; simp [*]), M0⟩
  · skip
    refine wp_seq ?_
    refine K2.region ?_
    refine K2.pure (.bool (k == (2 : Int))) (by kernel_rfl) (by kernel_rfl) ?_
    refine K2.pure (.bool (k == (2 : Int))) (by kernel_rfl) (by kernel_rfl) ?_
    refine K2.fin ?_
    refine K2.then_normal ?_
    refine wp_cond_split (t := (k == (2 : Int))) (by kernel_rfl) (fun h2 => ?_) (fun h2 => ?_)
    · skip
      refine wp_seq ?_
      refine K2.region ?_
      refine K2.pure (.string { data := #[108, 111, 111, 115, 101] }) (by kernel_rfl) (by kernel_rfl) ?_
      refine K2.fin ?_
      refine K2.then_normal ?_
      refine wp_ret ?_
      refine K2.block_ret ?_
      refine K2.then_ret ?_
      exact bodyPost_ret (v := .string { data := #[108, 111, 111, 115, 101] }) (by kernel_rfl) (by kernel_rfl) ⟨congrArg (fun z => Ending.returned (Value.string (bs z))) (show ([108, 111, 111, 115, 101] : List UInt8) = nmL k from by unfold nmL; simp only [decide_eq_true_eq, decide_eq_false_iff_not, beq_iff_eq, beq_eq_false_iff_ne] at *; simp [*]), M0⟩
    · skip
      refine wp_seq ?_
      refine K2.region ?_
      refine K2.pure (.bool (k == (3 : Int))) (by kernel_rfl) (by kernel_rfl) ?_
      refine K2.pure (.bool (k == (3 : Int))) (by kernel_rfl) (by kernel_rfl) ?_
      refine K2.fin ?_
      refine K2.then_normal ?_
      refine wp_cond_split (t := (k == (3 : Int))) (by kernel_rfl) (fun h3 => ?_) (fun h3 => ?_)
      · skip
        refine wp_seq ?_
        refine K2.region ?_
        refine K2.pure (.string { data := #[108, 111, 115, 116] }) (by kernel_rfl) (by kernel_rfl) ?_
        refine K2.fin ?_
        refine K2.then_normal ?_
        refine wp_ret ?_
        refine K2.block_ret ?_
        refine K2.then_ret ?_
        exact bodyPost_ret (v := .string { data := #[108, 111, 115, 116] }) (by kernel_rfl) (by kernel_rfl) ⟨congrArg (fun z => Ending.returned (Value.string (bs z))) (show ([108, 111, 115, 116] : List UInt8) = nmL k from by unfold nmL; simp only [decide_eq_true_eq, decide_eq_false_iff_not, beq_iff_eq, beq_eq_false_iff_ne] at *; simp [*]), M0⟩
      · skip
        refine wp_seq ?_
        refine K2.region ?_
        refine K2.pure (.bool (k == (4 : Int))) (by kernel_rfl) (by kernel_rfl) ?_
        refine K2.pure (.bool (k == (4 : Int))) (by kernel_rfl) (by kernel_rfl) ?_
        refine K2.fin ?_
        refine K2.then_normal ?_
        refine wp_cond_split (t := (k == (4 : Int))) (by kernel_rfl) (fun h4 => ?_) (fun h4 => ?_)
        · skip
          refine wp_seq ?_
          refine K2.region ?_
          refine K2.pure (.string { data := #[119, 114, 111, 110, 103] }) (by kernel_rfl) (by kernel_rfl) ?_
          refine K2.fin ?_
          refine K2.then_normal ?_
          refine wp_ret ?_
          refine K2.block_ret ?_
          refine K2.then_ret ?_
          exact bodyPost_ret (v := .string { data := #[119, 114, 111, 110, 103] }) (by kernel_rfl) (by kernel_rfl) ⟨congrArg (fun z => Ending.returned (Value.string (bs z))) (show ([119, 114, 111, 110, 103] : List UInt8) = nmL k from by unfold nmL; simp only [decide_eq_true_eq, decide_eq_false_iff_not, beq_iff_eq, beq_eq_false_iff_ne] at *; simp [*]), M0⟩
        · skip
          refine wp_seq ?_
          refine K2.region ?_
          refine K2.pure (.bool (k == (5 : Int))) (by kernel_rfl) (by kernel_rfl) ?_
          refine K2.pure (.bool (k == (5 : Int))) (by kernel_rfl) (by kernel_rfl) ?_
          refine K2.fin ?_
          refine K2.then_normal ?_
          refine wp_cond_split (t := (k == (5 : Int))) (by kernel_rfl) (fun h5 => ?_) (fun h5 => ?_)
          · skip
            refine wp_seq ?_
            refine K2.region ?_
            refine K2.pure (.string { data := #[115, 116, 114, 97, 121] }) (by kernel_rfl) (by kernel_rfl) ?_
            refine K2.fin ?_
            refine K2.then_normal ?_
            refine wp_ret ?_
            refine K2.block_ret ?_
            refine K2.then_ret ?_
            exact bodyPost_ret (v := .string { data := #[115, 116, 114, 97, 121] }) (by kernel_rfl) (by kernel_rfl) ⟨congrArg (fun z => Ending.returned (Value.string (bs z))) (show ([115, 116, 114, 97, 121] : List UInt8) = nmL k from by unfold nmL; simp only [decide_eq_true_eq, decide_eq_false_iff_not, beq_iff_eq, beq_eq_false_iff_ne] at *; simp [*]), M0⟩
          · skip
            refine wp_seq ?_
            refine K2.region ?_
            refine K2.pure (.bool (k == (6 : Int))) (by kernel_rfl) (by kernel_rfl) ?_
            refine K2.pure (.bool (k == (6 : Int))) (by kernel_rfl) (by kernel_rfl) ?_
            refine K2.fin ?_
            refine K2.then_normal ?_
            refine wp_cond_split (t := (k == (6 : Int))) (by kernel_rfl) (fun h6 => ?_) (fun h6 => ?_)
            · skip
              refine wp_seq ?_
              refine K2.region ?_
              refine K2.pure (.string { data := #[115, 116, 97, 108, 101] }) (by kernel_rfl) (by kernel_rfl) ?_
              refine K2.fin ?_
              refine K2.then_normal ?_
              refine wp_ret ?_
              refine K2.block_ret ?_
              refine K2.then_ret ?_
              exact bodyPost_ret (v := .string { data := #[115, 116, 97, 108, 101] }) (by kernel_rfl) (by kernel_rfl) ⟨congrArg (fun z => Ending.returned (Value.string (bs z))) (show ([115, 116, 97, 108, 101] : List UInt8) = nmL k from by unfold nmL; simp only [decide_eq_true_eq, decide_eq_false_iff_not, beq_iff_eq, beq_eq_false_iff_ne] at *; simp [*]), M0⟩
            · skip
              refine wp_skip ?_
              refine K2.block_normal ?_
              refine K2.then_normal ?_
              refine wp_seq ?_
              refine K2.region ?_
              refine K2.pure (.string { data := #[] }) (by kernel_rfl) (by kernel_rfl) ?_
              refine K2.fin ?_
              refine K2.then_normal ?_
              refine wp_ret ?_
              exact bodyPost_ret (v := .string { data := #[] }) (by kernel_rfl) (by kernel_rfl) ⟨congrArg (fun z => Ending.returned (Value.string (bs z))) (show ([] : List UInt8) = nmL k from by unfold nmL; simp only [decide_eq_true_eq, decide_eq_false_iff_not, beq_iff_eq, beq_eq_false_iff_ne] at *; simp [*]), M0⟩
theorem rname_c (k : Int) (W : World) : Calls Try.prog 42 #[.int .i64 k] W fun e W' => e = .returned (.string (bs (nmL k))) ∧ K2.Mem [] W W' [] := by
  refine calls_of_wp Try.func42 rfl ?_
  have M0 : K2.Mem [] W W [] := K2.Mem.start _ _
  refine K2.to (b := ⟨#[.int .i64 k, undef, undef, undef, undef, undef, undef, undef, undef, undef, undef, undef, undef, undef, undef, undef], []⟩) (by kernel_rfl) ?_
  refine wp_seq ?_
  refine K2.region ?_
  refine K2.pure (.string { data := #[] }) (by kernel_rfl) (by kernel_rfl) ?_
  refine K2.fin ?_
  refine K2.then_normal ?_
  refine wp_seq ?_
  refine K2.region ?_
  refine K2.allocV (fun B => .slice (some ⟨B, 0, none⟩) 6 6) #[.string { data := #[115, 104, 97, 114, 101, 100] }, .string { data := #[108, 111, 111, 115, 101] }, .string { data := #[108, 111, 115, 116] }, .string { data := #[119, 114, 111, 110, 103] }, .string { data := #[115, 116, 114, 97, 121] }, .string { data := #[115, 116, 97, 108, 101] }] 9 M0 (by kernel_rfl) (by kernel_rfl) fun w1 B1 M1 => ?_
  refine K2.pure (.slice (some ⟨B1, 0, none⟩) 6 6) (by kernel_rfl) (by kernel_rfl) ?_
  refine K2.fin ?_
  refine K2.then_normal ?_
  refine wp_seq ?_
  refine wp_seq ?_
  refine K2.region ?_
  refine K2.pure (.int .i64 k) (by kernel_rfl) (by kernel_rfl) ?_
  refine K2.pure (.bool (decide (k < (1 : Int)))) (by kernel_rfl) (by kernel_rfl) ?_
  rcases Bool.eq_false_or_eq_true ((decide (k < (1 : Int)))) with h2 | h2
  · skip
    refine K2.pure (.bool true) (by kernel_rfl) (K2.eqv (v := .bool ((decide (k < (1 : Int))))) (by kernel_rfl) (congrArg Value.bool h2)) ?_
    refine K2.skip (by kernel_rfl) ?_
    refine K2.skip (by kernel_rfl) ?_
    refine K2.pure (.bool true) (by kernel_rfl) (by kernel_rfl) ?_
    refine K2.fin ?_
    refine K2.then_normal ?_
    refine wp_cond_true (by kernel_rfl) ?_
    refine wp_seq ?_
    refine K2.region ?_
    refine K2.pure (.string { data := #[] }) (by kernel_rfl) (by kernel_rfl) ?_
    refine K2.fin ?_
    refine K2.then_normal ?_
    refine wp_ret ?_
    refine K2.then_ret ?_
    exact bodyPost_ret (v := .string { data := #[] }) (by kernel_rfl) (by kernel_rfl) ⟨congrArg (fun z => Ending.returned (Value.string (bs z))) (show ([] : List UInt8) = nmL k from by unfold nmL; simp only [decide_eq_true_eq, decide_eq_false_iff_not, beq_iff_eq, beq_eq_false_iff_ne] at *; (repeat rw [if_neg (by omega)])), (KO.mem_sub M1 (.cons _ .slnil))⟩
  · skip
    refine K2.pure (.bool false) (by kernel_rfl) (K2.eqv (v := .bool ((decide (k < (1 : Int))))) (by kernel_rfl) (congrArg Value.bool h2)) ?_
    refine K2.pure (.int .i64 k) (by kernel_rfl) (by kernel_rfl) ?_
    refine K2.pure (.bool (decide (k > (6 : Int)))) (by kernel_rfl) (by kernel_rfl) ?_
    refine K2.pure (.bool (decide (k > (6 : Int)))) (by kernel_rfl) (by kernel_rfl) ?_
    refine K2.fin ?_
    refine K2.then_normal ?_
    refine wp_cond_split (t := (decide (k > (6 : Int)))) (by kernel_rfl) (fun h3 => ?_) (fun h3 => ?_)
    · skip
      refine wp_seq ?_
      refine K2.region ?_
      refine K2.pure (.string { data := #[] }) (by kernel_rfl) (by kernel_rfl) ?_
      refine K2.fin ?_
      refine K2.then_normal ?_
      refine wp_ret ?_
      refine K2.then_ret ?_
      exact bodyPost_ret (v := .string { data := #[] }) (by kernel_rfl) (by kernel_rfl) ⟨congrArg (fun z => Ending.returned (Value.string (bs z))) (show ([] : List UInt8) = nmL k from by unfold nmL; simp only [decide_eq_true_eq, decide_eq_false_iff_not, beq_iff_eq, beq_eq_false_iff_ne] at *; (repeat rw [if_neg (by omega)])), (KO.mem_sub M1 (.cons _ .slnil))⟩
    · skip
      refine wp_skip ?_
      refine K2.then_normal ?_
      refine wp_seq ?_
      have hk : k = 1 ∨ k = 2 ∨ k = 3 ∨ k = 4 ∨ k = 5 ∨ k = 6 := by simp only [decide_eq_true_eq, decide_eq_false_iff_not, beq_iff_eq, beq_eq_false_iff_ne] at *; omega
      rcases hk with rfl | rfl | rfl | rfl | rfl | rfl
      · skip
        refine K2.region ?_
        refine K2.pure (.slice (some ⟨B1, 0, none⟩) 6 6) (by kernel_rfl) (by kernel_rfl) ?_
        refine K2.pure (.int .i64 1) (by kernel_rfl) (by kernel_rfl) ?_
        refine K2.pure (.int .i64 0) (by kernel_rfl) (by kernel_rfl) ?_
        refine K2.pure (.pointer (some ⟨B1, 0, none⟩)) (by kernel_rfl) (by kernel_rfl) ?_
        refine K2.pureS (Canon.ldS 9 (.pointer (some ⟨B1, 0, none⟩))) (.string { data := #[115, 104, 97, 114, 101, 100] }) (by kernel_rfl) (by kernel_rfl) (K2.ld_cell 9 0 (.string { data := #[115, 104, 97, 114, 101, 100] }) (M1.get 0 rfl) (by kernel_rfl) _ Try.underlying9 rfl) ?_
        refine K2.pure (.string { data := #[115, 104, 97, 114, 101, 100] }) (by kernel_rfl) (by kernel_rfl) ?_
        refine K2.fin ?_
        refine K2.then_normal ?_
        refine wp_ret ?_
        exact bodyPost_ret (v := .string { data := #[115, 104, 97, 114, 101, 100] }) (by kernel_rfl) (by kernel_rfl) ⟨rfl, (KO.mem_sub M1 (.cons _ .slnil))⟩
      · skip
        refine K2.region ?_
        refine K2.pure (.slice (some ⟨B1, 0, none⟩) 6 6) (by kernel_rfl) (by kernel_rfl) ?_
        refine K2.pure (.int .i64 2) (by kernel_rfl) (by kernel_rfl) ?_
        refine K2.pure (.int .i64 1) (by kernel_rfl) (by kernel_rfl) ?_
        refine K2.pure (.pointer (some ⟨B1, 1, none⟩)) (by kernel_rfl) (by kernel_rfl) ?_
        refine K2.pureS (Canon.ldS 9 (.pointer (some ⟨B1, 1, none⟩))) (.string { data := #[108, 111, 111, 115, 101] }) (by kernel_rfl) (by kernel_rfl) (K2.ld_cell 9 1 (.string { data := #[108, 111, 111, 115, 101] }) (M1.get 0 rfl) (by kernel_rfl) _ Try.underlying9 rfl) ?_
        refine K2.pure (.string { data := #[108, 111, 111, 115, 101] }) (by kernel_rfl) (by kernel_rfl) ?_
        refine K2.fin ?_
        refine K2.then_normal ?_
        refine wp_ret ?_
        exact bodyPost_ret (v := .string { data := #[108, 111, 111, 115, 101] }) (by kernel_rfl) (by kernel_rfl) ⟨rfl, (KO.mem_sub M1 (.cons _ .slnil))⟩
      · skip
        refine K2.region ?_
        refine K2.pure (.slice (some ⟨B1, 0, none⟩) 6 6) (by kernel_rfl) (by kernel_rfl) ?_
        refine K2.pure (.int .i64 3) (by kernel_rfl) (by kernel_rfl) ?_
        refine K2.pure (.int .i64 2) (by kernel_rfl) (by kernel_rfl) ?_
        refine K2.pure (.pointer (some ⟨B1, 2, none⟩)) (by kernel_rfl) (by kernel_rfl) ?_
        refine K2.pureS (Canon.ldS 9 (.pointer (some ⟨B1, 2, none⟩))) (.string { data := #[108, 111, 115, 116] }) (by kernel_rfl) (by kernel_rfl) (K2.ld_cell 9 2 (.string { data := #[108, 111, 115, 116] }) (M1.get 0 rfl) (by kernel_rfl) _ Try.underlying9 rfl) ?_
        refine K2.pure (.string { data := #[108, 111, 115, 116] }) (by kernel_rfl) (by kernel_rfl) ?_
        refine K2.fin ?_
        refine K2.then_normal ?_
        refine wp_ret ?_
        exact bodyPost_ret (v := .string { data := #[108, 111, 115, 116] }) (by kernel_rfl) (by kernel_rfl) ⟨rfl, (KO.mem_sub M1 (.cons _ .slnil))⟩
      · skip
        refine K2.region ?_
        refine K2.pure (.slice (some ⟨B1, 0, none⟩) 6 6) (by kernel_rfl) (by kernel_rfl) ?_
        refine K2.pure (.int .i64 4) (by kernel_rfl) (by kernel_rfl) ?_
        refine K2.pure (.int .i64 3) (by kernel_rfl) (by kernel_rfl) ?_
        refine K2.pure (.pointer (some ⟨B1, 3, none⟩)) (by kernel_rfl) (by kernel_rfl) ?_
        refine K2.pureS (Canon.ldS 9 (.pointer (some ⟨B1, 3, none⟩))) (.string { data := #[119, 114, 111, 110, 103] }) (by kernel_rfl) (by kernel_rfl) (K2.ld_cell 9 3 (.string { data := #[119, 114, 111, 110, 103] }) (M1.get 0 rfl) (by kernel_rfl) _ Try.underlying9 rfl) ?_
        refine K2.pure (.string { data := #[119, 114, 111, 110, 103] }) (by kernel_rfl) (by kernel_rfl) ?_
        refine K2.fin ?_
        refine K2.then_normal ?_
        refine wp_ret ?_
        exact bodyPost_ret (v := .string { data := #[119, 114, 111, 110, 103] }) (by kernel_rfl) (by kernel_rfl) ⟨rfl, (KO.mem_sub M1 (.cons _ .slnil))⟩
      · skip
        refine K2.region ?_
        refine K2.pure (.slice (some ⟨B1, 0, none⟩) 6 6) (by kernel_rfl) (by kernel_rfl) ?_
        refine K2.pure (.int .i64 5) (by kernel_rfl) (by kernel_rfl) ?_
        refine K2.pure (.int .i64 4) (by kernel_rfl) (by kernel_rfl) ?_
        refine K2.pure (.pointer (some ⟨B1, 4, none⟩)) (by kernel_rfl) (by kernel_rfl) ?_
        refine K2.pureS (Canon.ldS 9 (.pointer (some ⟨B1, 4, none⟩))) (.string { data := #[115, 116, 114, 97, 121] }) (by kernel_rfl) (by kernel_rfl) (K2.ld_cell 9 4 (.string { data := #[115, 116, 114, 97, 121] }) (M1.get 0 rfl) (by kernel_rfl) _ Try.underlying9 rfl) ?_
        refine K2.pure (.string { data := #[115, 116, 114, 97, 121] }) (by kernel_rfl) (by kernel_rfl) ?_
        refine K2.fin ?_
        refine K2.then_normal ?_
        refine wp_ret ?_
        exact bodyPost_ret (v := .string { data := #[115, 116, 114, 97, 121] }) (by kernel_rfl) (by kernel_rfl) ⟨rfl, (KO.mem_sub M1 (.cons _ .slnil))⟩
      · skip
        refine K2.region ?_
        refine K2.pure (.slice (some ⟨B1, 0, none⟩) 6 6) (by kernel_rfl) (by kernel_rfl) ?_
        refine K2.pure (.int .i64 6) (by kernel_rfl) (by kernel_rfl) ?_
        refine K2.pure (.int .i64 5) (by kernel_rfl) (by kernel_rfl) ?_
        refine K2.pure (.pointer (some ⟨B1, 5, none⟩)) (by kernel_rfl) (by kernel_rfl) ?_
        refine K2.pureS (Canon.ldS 9 (.pointer (some ⟨B1, 5, none⟩))) (.string { data := #[115, 116, 97, 108, 101] }) (by kernel_rfl) (by kernel_rfl) (K2.ld_cell 9 5 (.string { data := #[115, 116, 97, 108, 101] }) (M1.get 0 rfl) (by kernel_rfl) _ Try.underlying9 rfl) ?_
        refine K2.pure (.string { data := #[115, 116, 97, 108, 101] }) (by kernel_rfl) (by kernel_rfl) ?_
        refine K2.fin ?_
        refine K2.then_normal ?_
        refine wp_ret ?_
        exact bodyPost_ret (v := .string { data := #[115, 116, 97, 108, 101] }) (by kernel_rfl) (by kernel_rfl) ⟨rfl, (KO.mem_sub M1 (.cons _ .slnil))⟩
abbrev slS (t : TypeId) (x l h : Value) : Sem Next := do Pure.pure (.value (← Instr.sliceAt t x (some l) (some h) none))
theorem sl_0 (w : World) : (slS 9 (.string ⟨#[48, 49, 50, 51, 52, 53, 54, 55, 56, 57]⟩) (.int .u64 0) (.int .u64 1)).run Try.prog w = .ok (.value (.string ⟨#[48]⟩)) w := by kernel_rfl
theorem sl_1 (w : World) : (slS 9 (.string ⟨#[48, 49, 50, 51, 52, 53, 54, 55, 56, 57]⟩) (.int .u64 1) (.int .u64 2)).run Try.prog w = .ok (.value (.string ⟨#[49]⟩)) w := by kernel_rfl
theorem sl_2 (w : World) : (slS 9 (.string ⟨#[48, 49, 50, 51, 52, 53, 54, 55, 56, 57]⟩) (.int .u64 2) (.int .u64 3)).run Try.prog w = .ok (.value (.string ⟨#[50]⟩)) w := by kernel_rfl
theorem sl_3 (w : World) : (slS 9 (.string ⟨#[48, 49, 50, 51, 52, 53, 54, 55, 56, 57]⟩) (.int .u64 3) (.int .u64 4)).run Try.prog w = .ok (.value (.string ⟨#[51]⟩)) w := by kernel_rfl
theorem sl_4 (w : World) : (slS 9 (.string ⟨#[48, 49, 50, 51, 52, 53, 54, 55, 56, 57]⟩) (.int .u64 4) (.int .u64 5)).run Try.prog w = .ok (.value (.string ⟨#[52]⟩)) w := by kernel_rfl
theorem sl_5 (w : World) : (slS 9 (.string ⟨#[48, 49, 50, 51, 52, 53, 54, 55, 56, 57]⟩) (.int .u64 5) (.int .u64 6)).run Try.prog w = .ok (.value (.string ⟨#[53]⟩)) w := by kernel_rfl
theorem sl_6 (w : World) : (slS 9 (.string ⟨#[48, 49, 50, 51, 52, 53, 54, 55, 56, 57]⟩) (.int .u64 6) (.int .u64 7)).run Try.prog w = .ok (.value (.string ⟨#[54]⟩)) w := by kernel_rfl
theorem sl_7 (w : World) : (slS 9 (.string ⟨#[48, 49, 50, 51, 52, 53, 54, 55, 56, 57]⟩) (.int .u64 7) (.int .u64 8)).run Try.prog w = .ok (.value (.string ⟨#[55]⟩)) w := by kernel_rfl
theorem sl_8 (w : World) : (slS 9 (.string ⟨#[48, 49, 50, 51, 52, 53, 54, 55, 56, 57]⟩) (.int .u64 8) (.int .u64 9)).run Try.prog w = .ok (.value (.string ⟨#[56]⟩)) w := by kernel_rfl
theorem sl_9 (w : World) : (slS 9 (.string ⟨#[48, 49, 50, 51, 52, 53, 54, 55, 56, 57]⟩) (.int .u64 9) (.int .u64 10)).run Try.prog w = .ok (.value (.string ⟨#[57]⟩)) w := by kernel_rfl
theorem sl_dig (r : Nat) (h : r < 10) (w : World) : (slS 9 (.string ⟨#[48, 49, 50, 51, 52, 53, 54, 55, 56, 57]⟩) (.int .u64 ((r : Nat) : Int)) (.int .u64 ((r + 1 : Nat) : Int))).run Try.prog w = .ok (.value (.string (bs [UInt8.ofNat (48 + r)]))) w := by
  match r, h with
  | 0, _ => exact sl_0 w
  | 1, _ => exact sl_1 w
  | 2, _ => exact sl_2 w
  | 3, _ => exact sl_3 w
  | 4, _ => exact sl_4 w
  | 5, _ => exact sl_5 w
  | 6, _ => exact sl_6 w
  | 7, _ => exact sl_7 w
  | 8, _ => exact sl_8 w
  | 9, _ => exact sl_9 w
  | n + 10, h => omega
theorem rdigits_c (n : Nat) : n < 18446744073709551616 → ∀ W : World, Calls Try.prog 55 #[.int .u64 ((n : Nat) : Int)] W fun e W' => e = .returned (.string (bs (dig n))) ∧ K2.Mem [] W W' [] := by
  induction n using Nat.strongRecOn with
  | _ n ih =>
    intro hn W
    refine calls_of_wp Try.func55 rfl ?_
    have M0 : K2.Mem [] W W [] := K2.Mem.start _ _
    refine K2.to (b := ⟨#[.int .u64 ((n : Nat) : Int), undef, undef, undef, undef, undef, undef, undef, undef, undef, undef, undef, undef, undef, undef, undef, undef, undef], []⟩) (by kernel_rfl) ?_
    refine wp_seq ?_
    refine K2.region ?_
    refine K2.pure (.string { data := #[] }) (by kernel_rfl) (by kernel_rfl) ?_
    refine K2.fin ?_
    refine K2.then_normal ?_
    refine wp_seq ?_
    refine K2.region ?_
    refine K2.pure (.int .u64 ((n : Nat) : Int)) (by kernel_rfl) (by kernel_rfl) ?_
    refine K2.pure (.int .u64 (((n % 10) : Nat) : Int)) (by kernel_rfl) (K2.eqv (v := .int .u64 (Int.tmod (((n : Nat) : Int)) (10 : Int))) (by kernel_rfl) (congrArg (Value.int .u64) (tmod_nat n 10))) ?_
    refine K2.pure (.int .u64 ((n : Nat) : Int)) (by kernel_rfl) (by kernel_rfl) ?_
    refine K2.pure (.int .u64 (((n % 10) : Nat) : Int)) (by kernel_rfl) (K2.eqv (v := .int .u64 (Int.tmod (((n : Nat) : Int)) (10 : Int))) (by kernel_rfl) (congrArg (Value.int .u64) (tmod_nat n 10))) ?_
    refine K2.pure (.int .u64 (((n % 10) + 1 : Nat) : Int)) (by kernel_rfl) (K2.eqv (v := .int .u64 (IntKind.u64.wrap ((((n % 10) : Nat) : Int) + (1 : Int)))) (by kernel_rfl) (congrArg (Value.int .u64) (by rw [wrap_u64]; omega))) ?_
    refine K2.pureS (slS 9 (.string ⟨#[48, 49, 50, 51, 52, 53, 54, 55, 56, 57]⟩) (.int .u64 (((n % 10) : Nat) : Int)) (.int .u64 (((n % 10) + 1 : Nat) : Int))) (.string (bs [digC n])) (by kernel_rfl) (by kernel_rfl) (sl_dig (n % 10) (Nat.mod_lt _ (by omega)) W) ?_
    refine K2.pure (.string (bs [digC n])) (by kernel_rfl) (by kernel_rfl) ?_
    refine K2.fin ?_
    refine K2.then_normal ?_
    refine wp_seq ?_
    refine wp_seq ?_
    refine K2.region ?_
    refine K2.pure (.int .u64 ((n : Nat) : Int)) (by kernel_rfl) (by kernel_rfl) ?_
    refine K2.pure (.bool (decide (((n : Nat) : Int) < (10 : Int)))) (by kernel_rfl) (by kernel_rfl) ?_
    refine K2.fin ?_
    refine K2.then_normal ?_
    refine wp_cond_split (t := (decide (((n : Nat) : Int) < (10 : Int)))) (by kernel_rfl) (fun h1 => ?_) (fun h1 => ?_)
    · skip
      refine wp_seq ?_
      refine K2.region ?_
      refine K2.pure (.string (bs [digC n])) (by kernel_rfl) (by kernel_rfl) ?_
      refine K2.pure (.string (bs [digC n])) (by kernel_rfl) (by kernel_rfl) ?_
      refine K2.fin ?_
      refine K2.then_normal ?_
      refine wp_ret ?_
      refine K2.then_ret ?_
      exact bodyPost_ret (v := .string (bs [digC n])) (by kernel_rfl) (by kernel_rfl) ⟨congrArg (fun z => Ending.returned (Value.string (bs z))) (by simp only [decide_eq_true_eq, decide_eq_false_iff_not, beq_iff_eq, beq_eq_false_iff_ne] at *; rw [dig_lt (by omega)]), M0⟩
    · skip
      refine wp_skip ?_
      refine K2.then_normal ?_
      refine wp_seq ?_
      refine K2.region ?_
      refine K2.pure (.int .u64 ((n : Nat) : Int)) (by kernel_rfl) (by kernel_rfl) ?_
      refine K2.pure (.int .u64 (((n / 10) : Nat) : Int)) (by kernel_rfl) (K2.eqv (v := .int .u64 (IntKind.u64.wrap (Int.tdiv (((n : Nat) : Int)) (10 : Int)))) (by kernel_rfl) (congrArg (Value.int .u64) (by show IntKind.u64.wrap (((n / 10 : Nat) : Int)) = _; rw [wrap_u64]; omega))) ?_
      refine K2.call (.string (bs (dig (n / 10)))) 55 #[.int .u64 (((n / 10) : Nat) : Int)] M0 (by kernel_rfl) (by kernel_rfl) (ih (n / 10) (by simp only [decide_eq_true_eq, decide_eq_false_iff_not, beq_iff_eq, beq_eq_false_iff_ne] at *; omega) (by omega) W) fun w2 M2 => ?_
      refine K2.pure (.string (bs [digC n])) (by kernel_rfl) (by kernel_rfl) ?_
      refine K2.pureS (Canon.opS .add 9 (.tmp 15) (.tmp 16) (.string (bs (dig (n / 10)))) (.string (bs [digC n]))) (.string (bs ((dig (n / 10)) ++ ([digC n])))) (by kernel_rfl) (by kernel_rfl) (str_add 9 _ _ (dig (n / 10)) ([digC n]) (by have := dig20 (n / 10) (by omega); simp; omega) w2) ?_
      refine K2.pure (.string (bs ((dig (n / 10)) ++ ([digC n])))) (by kernel_rfl) (by kernel_rfl) ?_
      refine K2.fin ?_
      refine K2.then_normal ?_
      refine wp_ret ?_
      exact bodyPost_ret (v := .string (bs ((dig (n / 10)) ++ ([digC n])))) (by kernel_rfl) (by kernel_rfl) ⟨congrArg (fun z => Ending.returned (Value.string (bs z))) (by simp only [decide_eq_true_eq, decide_eq_false_iff_not, beq_iff_eq, beq_eq_false_iff_ne] at *; rw [← dig_ge (by omega)]), M2⟩
end Go.Proofs.Ytfhigpmpngfkbaa.Aud
