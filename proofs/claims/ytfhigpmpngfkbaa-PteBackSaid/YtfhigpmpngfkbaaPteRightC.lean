/- Whether an entry is of a page, and whether it may be: what the program's functions answer. No condition. -/
import Derived.Test.YtfhigpmpngfkbaaPPteRightx3
import Derived.Test.YtfhigpmpngfkbaaPteOfC
namespace Go.Proofs.Ytfhigpmpngfkbaa.Pte
open Go.RowKit Go.Proofs.YtfhigpmpngfkbaaW.PrintWords Go.Proofs.YtfhigpmpngfkbaaW.PrintLast Go.Proofs.YtfhigpmpngfkbaaW.PrintMore Go.Proofs.Ytfhigpmpngfkbaa.Bits
def leafB (e : Nat → Bool) : Bool := e 0 && (e 1 || (e 2 || e 3))
def wrongB (e : Nat → Bool) (f : BitVec 64) : Bool := (e 2 && !e 1) || ((e 8 && !e 2) || ((e 9 && !e 1) || decide (u (maskI 44) < u f)))
def bareB (e : Nat → Bool) : Bool := !e 1 && (!e 2 && (!e 3 && (!e 4 && (!e 6 && (!e 7 && (!e 8 && (!e 9 && (!e 10 && !e 11))))))))
def rightB (e : Nat → Bool) (f : BitVec 64) : Bool := !e 0 || (!wrongB e f && (leafB e || bareB e))
theorem leaf_eq (e : Nat → Bool) (f : BitVec 64) : PPteRight.pte_Leaf.f (e 0) (e 1) (e 2) (e 3) (e 4) (e 5) (e 6) (e 7) (e 8) (e 9) (e 10) (e 11) (u f) = some (leafB e) := by
  unfold PPteRight.pte_Leaf.f leafB
  cases e 0 <;> cases e 1 <;> cases e 2 <;> cases e 3 <;> rfl
theorem leaf_c (e : Nat → Bool) (f : BitVec 64) (W : World) : Calls Try.prog 34 #[.agg (cellsB e f)] W fun r W' => r = .returned (.bool (leafB e)) ∧ Below W.heap.size W W' :=
  PPteRight.pte_Leaf.calls _ _ _ _ _ _ _ _ _ _ _ _ _ _ W (leaf_eq e f)
theorem mask_eq : PPteRight.field_Mask.f 44 = some (u (maskI 44)) := by
  have h := PFieldTells.field_Mask.eq 44
  exact h
theorem right_eq (e : Nat → Bool) (f : BitVec 64) : PPteRight.pte_Right.f 4 (e 0) (e 1) (e 2) (e 3) (e 4) (e 5) (e 6) (e 7) (e 8) (e 9) (e 10) (e 11) (u f) = some (rightB e f) := by
  have hl := leaf_eq e f
  have hm := mask_eq
  unfold PPteRight.pte_Right.f rightB wrongB bareB
  simp only [PPteRight.pte_Right.j0, PPteRight.pte_Right.j1, PPteRight.pte_Right.j2, hl, hm, Option.bind_some, gt_iff_lt]
  generalize decide (u (maskI 44) < u f) = c
  cases h0 : e 0
  · simp
  · cases leafB e <;> cases e 1 <;> cases e 2 <;> cases e 8 <;> cases e 9 <;> cases c <;> simp
theorem right_c (e : Nat → Bool) (f : BitVec 64) (W : World) : Calls Try.prog 36 #[.agg (cellsB e f)] W fun r W' => r = .returned (.bool (rightB e f)) ∧ Below W.heap.size W W' :=
  PPteRight.pte_Right.calls 4 _ _ _ _ _ _ _ _ _ _ _ _ _ _ W (right_eq e f)
end Go.Proofs.Ytfhigpmpngfkbaa.Pte
