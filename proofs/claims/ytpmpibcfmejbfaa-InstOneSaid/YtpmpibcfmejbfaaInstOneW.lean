/- Two words that are instructions are the same just if their instructions are; each instruction of the table has a word and a name: the statement's function answers true. No condition but that the arguments are of their types. -/
import Derived.Test.YtpmpibcfmejbfaaInstOneS
import Derived.Test.YtpmpibcfmejbfaaKOpen
namespace Go.Proofs.Ytpmpibcfmejbfaa.InstOneW
open Go.RowKit Go.Proofs.Ytpmpibcfmejbfaa.Bits Go.Proofs.Ytpmpibcfmejbfaa.Inst Go.Proofs.Ytpmpibcfmejbfaa.Opens
theorem u32_of {n : Int} (h : (Lit.int .u32 n).wf = true) : ∃ x : BitVec 64, n = u x ∧ ∀ i, 32 ≤ i → i < 64 → x.getLsbD i = false := by
  have hn : 0 ≤ n ∧ n < 4294967296 := by
    have hmin : IntKind.u32.min = 0 := rfl
    have hmax : IntKind.u32.max = 4294967295 := rfl
    simp only [Lit.wf, Bool.and_eq_true, decide_eq_true_eq] at h
    omega
  have e : (BitVec.ofNat 64 n.toNat).toNat = n.toNat := by rw [BitVec.toNat_ofNat]; omega
  refine ⟨BitVec.ofNat 64 n.toNat, ?_, fun i h1 h2 => ?_⟩
  · show n = ((BitVec.ofNat 64 n.toNat).toNat : Int)
    rw [e]; omega
  · show (BitVec.ofNat 64 n.toNat).toNat.testBit i = false
    rw [e]
    exact Nat.testBit_lt_two_pow (Nat.lt_of_lt_of_le (show n.toNat < 2 ^ 32 by omega) (Nat.pow_le_pow_right (by omega) h1))
theorem walk (W : World) (base : Nat) (v0 v1 v2 : Value) (o0 : Value.okWide Try.prog W .any base 37 v0) (o1 : Value.okWide Try.prog W .any base 37 v1) (o2 : Value.okWide Try.prog W .any base 3 v2) :
    Calls Try.prog 10 #[v0, v1, v2] W fun e W' => e = .returned (.bool true) ∧ Below W.heap.size W W' := by
  obtain ⟨n0, rfl, h0⟩ := val_int Try.underlying37 o0
  obtain ⟨n1, rfl, h1⟩ := val_int Try.underlying37 o1
  obtain ⟨op, rfl, -⟩ := val_int Try.underlying3 o2
  obtain ⟨a, rfl, xa⟩ := u32_of h0
  obtain ⟨b, rfl, xb⟩ := u32_of h1
  have l1 := Int.tmod_lt_of_pos op (show (0:Int) < 69 by decide)
  have l2 := Int.lt_tmod_of_pos op (show (0:Int) < 69 by decide)
  have l3 := Int.tmod_lt_of_pos (op.tmod 69 + 69) (show (0:Int) < 69 by decide)
  have l4 := Int.tmod_nonneg 69 (show 0 ≤ op.tmod 69 + 69 by omega)
  have hm : ((op.tmod 69 + 69).tmod 69).toNat < 69 := by omega
  have hop : (op.tmod 69 + 69).tmod 69 = ((((op.tmod 69 + 69).tmod 69).toNat : Nat) : Int) := by omega
  have all : Calls Try.prog 10 #[.int .u32 (u a), .int .u32 (u b), .int .i64 op] W fun e W' => e = .returned (.bool true) ∧ Kw.Mem [] W W' [] := by
    cases ha : decN a <;> cases hb : decN b
    · exact one_00 a b op _ hm hop xa xb ha hb W
    · exact one_01 a b op _ hm hop xa xb ha _ hb W
    · exact one_10 a b op _ hm hop xa xb _ ha hb W
    · exact one_11 a b op _ hm hop xa xb _ ha _ hb W
  exact all.mono fun e W' ⟨he, hd⟩ => ⟨he, Kw.mem_below hd⟩
end Go.Proofs.Ytpmpibcfmejbfaa.InstOneW
