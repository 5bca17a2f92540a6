/- Whether a branch is taken, branch by branch: what the program's function answers. No condition. -/
import Derived.Test.YtpmpibcfmejbfaaAluDoC
import Derived.WalkSmall
namespace Go.Proofs.Ytpmpibcfmejbfaa.Alu
open Go.RowKit Go.Proofs.YtpmpibcfmejbfaaW.PrintWords Go.Proofs.YtpmpibcfmejbfaaW.PrintLast Go.Proofs.YtpmpibcfmejbfaaW.PrintMore Go.Proofs.Ytpmpibcfmejbfaa.Bits
set_option maxRecDepth 100000 in
theorem takes_5 (a b : BitVec 64) (W : World) : Calls Try.prog 14 #[.int .i64 5, .int .u64 (u a), .int .u64 (u b)] W fun e W' => e = .returned (.tuple #[.bool (u a == u b), .bool true]) ∧ Below W.heap.size W W' := by
  have hmf : ∀ (fn : Fn) (first cap : Array Value) (w : World), (Instr.makeFunc fn first cap).run Try.prog w = .ok (.func fn first cap) w := fun _ _ _ _ => rfl
  have r2 := wrap64_u
  go_enter Try.func14, Try.ntmps14
  go_wp2
  go_ret2
  exact ⟨rfl, ((Below.refl _ _).alloc (Nat.le_refl _) _).alloc (by simp) _⟩
set_option maxRecDepth 100000 in
theorem takes_6 (a b : BitVec 64) (W : World) : Calls Try.prog 14 #[.int .i64 6, .int .u64 (u a), .int .u64 (u b)] W fun e W' => e = .returned (.tuple #[.bool (u a != u b), .bool true]) ∧ Below W.heap.size W W' := by
  have hmf : ∀ (fn : Fn) (first cap : Array Value) (w : World), (Instr.makeFunc fn first cap).run Try.prog w = .ok (.func fn first cap) w := fun _ _ _ _ => rfl
  have r2 := wrap64_u
  go_enter Try.func14, Try.ntmps14
  go_wp2
  go_ret2
  exact ⟨rfl, ((Below.refl _ _).alloc (Nat.le_refl _) _).alloc (by simp) _⟩
set_option maxRecDepth 100000 in
theorem takes_7 (a b : BitVec 64) (W : World) : Calls Try.prog 14 #[.int .i64 7, .int .u64 (u a), .int .u64 (u b)] W fun e W' => e = .returned (.tuple #[.bool (decide (s a < s b)), .bool true]) ∧ Below W.heap.size W W' := by
  have hmf : ∀ (fn : Fn) (first cap : Array Value) (w : World), (Instr.makeFunc fn first cap).run Try.prog w = .ok (.func fn first cap) w := fun _ _ _ _ => rfl
  have r2 := wrap64_u
  go_enter Try.func14, Try.ntmps14
  go_wp2
  go_ret2
  exact ⟨rfl, ((Below.refl _ _).alloc (Nat.le_refl _) _).alloc (by simp) _⟩
set_option maxRecDepth 100000 in
theorem takes_8 (a b : BitVec 64) (W : World) : Calls Try.prog 14 #[.int .i64 8, .int .u64 (u a), .int .u64 (u b)] W fun e W' => e = .returned (.tuple #[.bool (!decide (s a < s b)), .bool true]) ∧ Below W.heap.size W W' := by
  have hmf : ∀ (fn : Fn) (first cap : Array Value) (w : World), (Instr.makeFunc fn first cap).run Try.prog w = .ok (.func fn first cap) w := fun _ _ _ _ => rfl
  have r2 := wrap64_u
  go_enter Try.func14, Try.ntmps14
  go_wp2
  go_ret2
  exact ⟨rfl, ((Below.refl _ _).alloc (Nat.le_refl _) _).alloc (by simp) _⟩
set_option maxRecDepth 100000 in
theorem takes_9 (a b : BitVec 64) (W : World) : Calls Try.prog 14 #[.int .i64 9, .int .u64 (u a), .int .u64 (u b)] W fun e W' => e = .returned (.tuple #[.bool (decide (u a < u b)), .bool true]) ∧ Below W.heap.size W W' := by
  have hmf : ∀ (fn : Fn) (first cap : Array Value) (w : World), (Instr.makeFunc fn first cap).run Try.prog w = .ok (.func fn first cap) w := fun _ _ _ _ => rfl
  have r2 := wrap64_u
  go_enter Try.func14, Try.ntmps14
  go_wp2
  go_ret2
  exact ⟨rfl, ((Below.refl _ _).alloc (Nat.le_refl _) _).alloc (by simp) _⟩
set_option maxRecDepth 100000 in
theorem takes_10 (a b : BitVec 64) (W : World) : Calls Try.prog 14 #[.int .i64 10, .int .u64 (u a), .int .u64 (u b)] W fun e W' => e = .returned (.tuple #[.bool (!decide (u a < u b)), .bool true]) ∧ Below W.heap.size W W' := by
  have hmf : ∀ (fn : Fn) (first cap : Array Value) (w : World), (Instr.makeFunc fn first cap).run Try.prog w = .ok (.func fn first cap) w := fun _ _ _ _ => rfl
  have r2 := wrap64_u
  go_enter Try.func14, Try.ntmps14
  go_wp2
  go_ret2
  exact ⟨rfl, ((Below.refl _ _).alloc (Nat.le_refl _) _).alloc (by simp) _⟩
set_option maxRecDepth 100000 in
theorem takes_other (op : Int) (h : (op == 5) = false ∧ (op == 6) = false ∧ (op == 7) = false ∧ (op == 8) = false ∧ (op == 9) = false ∧ (op == 10) = false) (a b : BitVec 64) (W : World) : Calls Try.prog 14 #[.int .i64 op, .int .u64 (u a), .int .u64 (u b)] W fun e W' => e = .returned (.tuple #[.bool false, .bool false]) ∧ Below W.heap.size W W' := by
  obtain ⟨h5, h6, h7, h8, h9, h10⟩ := h
  have hmf : ∀ (fn : Fn) (first cap : Array Value) (w : World), (Instr.makeFunc fn first cap).run Try.prog w = .ok (.func fn first cap) w := fun _ _ _ _ => rfl
  go_enter Try.func14, Try.ntmps14
  go_wp2
  go_ret2
  exact ⟨rfl, ((Below.refl _ _).alloc (Nat.le_refl _) _).alloc (by simp) _⟩
end Go.Proofs.Ytpmpibcfmejbfaa.Alu
