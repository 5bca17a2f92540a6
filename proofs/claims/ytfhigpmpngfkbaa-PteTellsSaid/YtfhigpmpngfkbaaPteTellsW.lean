/- Any entry has the document's number, and any number its entry; any entry is of a page, and right, or not: the statement's function answers true. No condition but that the arguments are of their types. -/
import Derived.Test.YtfhigpmpngfkbaaPteRefW
import Derived.Test.YtfhigpmpngfkbaaPteRefO
import Derived.Test.YtfhigpmpngfkbaaPteRefR
namespace Go.Proofs.Ytfhigpmpngfkbaa.Pte
open Go.RowKit Go.Proofs.YtfhigpmpngfkbaaW.PrintWords Go.Proofs.YtfhigpmpngfkbaaW.PrintLast Go.Proofs.YtfhigpmpngfkbaaW.PrintMore Go.Proofs.Ytfhigpmpngfkbaa.Bits Go.Proofs.Ytfhigpmpngfkbaa.FC Go.Proofs.Ytfhigpmpngfkbaa.Opens
theorem bitv_bit (b : Bool) (k i : Nat) (hi : i < 64) : (bitv b k).getLsbD i = (b && k == i) := by
  unfold bitv
  cases b
  · simp
  · simp only [if_true, Bool.true_and]; exact one_bit k i hi
theorem add_or {x y : BitVec 64} (h : ∀ i, i < 64 → (x.getLsbD i && y.getLsbD i) = false) : x + y = x ||| y := by
  refine BitVec.add_eq_or_of_and_eq_zero _ _ ?_
  apply Bits.ext; intro i hi
  rw [BitVec.getLsbD_and, h i hi, BitVec.getLsbD_zero]
def sumTo (e : Nat → Bool) : Nat → BitVec 64
  | 0 => bitv (e 0) (pl 0)
  | k + 1 => sumTo e k + bitv (e (k + 1)) (pl (k + 1))
theorem pl_lt (j k : Nat) (h : j < k) : pl j < pl k := by unfold pl; split <;> split <;> omega
theorem any_over (e : Nat → Bool) (i : Nat) : ∀ k, (∀ j, j < k → pl j ≠ i) → anyAt e k i = false
  | 0, _ => rfl
  | k + 1, h => by
    unfold anyAt
    rw [any_over e i k (fun j hj => h j (by omega)), beq_eq_false_iff_ne.2 (h k (by omega))]; simp
theorem sumTo_bit (e : Nat → Bool) : ∀ k, k < 12 → ∀ i, i < 64 → (sumTo e k).getLsbD i = anyAt e (k + 1) i
  | 0, _, i, hi => by unfold sumTo; rw [bitv_bit _ _ _ hi]; simp [anyAt]
  | k + 1, hk, i, hi => by
    have ih := sumTo_bit e k (by omega)
    unfold sumTo
    rw [add_or, BitVec.getLsbD_or, ih i hi, bitv_bit _ _ _ hi]
    · rfl
    · intro j hj
      rw [ih j hj, bitv_bit _ _ _ hj]
      by_cases h : pl (k + 1) = j
      · rw [any_over e j (k + 1) (fun m hm => by have := pl_lt m (k + 1) hm; omega)]; simp
      · rw [beq_eq_false_iff_ne.2 h]; simp
theorem rword_eq (e : Nat → Bool) (f : BitVec 64) : rword e f = wordB e f := by
  have h : rword e f = sumTo e 11 + ((f &&& mask 44) <<< 10) := rfl
  rw [h, add_or]
  · apply Bits.ext; intro i hi
    rw [BitVec.getLsbD_or, sumTo_bit e 11 (by omega) i hi, word_bit _ _ _ hi, Bool.or_comm]
    congr 1
    rw [BitVec.getLsbD_shiftLeft, BitVec.getLsbD_and, mask_bit _ _ (by omega)]
    by_cases h1 : i < 10
    · rw [if_neg (by omega)]; simp [h1]
    · by_cases h2 : i < 54
      · rw [if_pos ⟨by omega, h2⟩]; have : i - 10 < 44 := by omega
        simp [h1, hi, this]
      · rw [if_neg (by omega)]; have : ¬ i - 10 < 44 := by omega
        simp [this]
  · intro i hi
    rw [sumTo_bit e 11 (by omega) i hi, BitVec.getLsbD_shiftLeft, BitVec.getLsbD_and, mask_bit _ _ (by omega)]
    by_cases h1 : 8 ≤ i ∧ i < 58
    · rw [any_no e i h1.1 h1.2]; simp
    · by_cases h2 : i < 10
      · simp [h2]
      · have : ¬ i - 10 < 44 := by omega
        simp [this]
theorem rword_w (e : Nat → Bool) (f : BitVec 64) (W : World) : Calls Try.prog 32 #[.agg (cellsB e f)] W fun r W' => r = .returned (.int .u64 (u (wordB e f))) ∧ Below W.heap.size W W' := by
  rw [← rword_eq]; exact rword_c e f W
theorem of_w (x : BitVec 64) (W : World) : Calls Try.prog 30 #[.int .u64 (u x)] W fun r W' => r = .returned (.agg (cellsB (bitsOf x) (getI x 10 44))) ∧ Below W.heap.size W W' := by
  have h : cellsB (fun i => decide (i < 12) && bitsOf x i) (getI x 10 44) = cellsB (bitsOf x) (getI x 10 44) := cells_congr (fun j hj => by simp [hj]) rfl
  rw [← h]; exact of_c x W
def cells5 : Array Value := #[.bool true, .bool true, .bool false, .bool false, .bool false, .bool false, .bool false, .bool false, .bool false, .bool false, .bool false, .bool false, .int .u64 5]
theorem word_5 (W : World) : Calls Try.prog 31 #[.agg cells5] W fun r W' => r = .returned (.int .u64 5123) ∧ Below W.heap.size W W' := by
  refine (word_c (fun i => decide (i < 2)) 5#64 W).mono fun r w' ⟨he, hb⟩ => ⟨?_, hb⟩
  rw [he]
  have : u (wordB (fun i => decide (i < 2)) 5#64) = 5123 := by decide +kernel
  rw [this]
theorem ei_load {W w : World} {T : TypeId} {e : Nat → Bool} {f : BitVec 64} (h : EI W T e f w) : (Canon.ldS 46 (.pointer (some ⟨W.heap.size, 0, none⟩))).run Try.prog w = .ok (.value (.agg (cellsB e f))) w := by
  have h1 := run_loadVar_row (P := Try.prog) w W.heap.size T 46 (cellsB e f) (0, 0) _ h.1 Try.underlying46 rfl (by kernel_rfl)
  unfold Canon.ldS
  simp only [Instr.loadAt, Instr.sureAddr, Sem.run_bind, Sem.run_pure, Result.andThen_ok, h1]
theorem eq_cells {e : Nat → Bool} {f : BitVec 64} (w : World) (a b : Operand) : (Canon.opS .eql 51 a b (.agg (cellsB e f)) (.agg (cellsB e f))).run Try.prog w = .ok (.value (.bool true)) w := by
  have h2 : ∀ b : Bool, (b == b) = true := fun b => by cases b <;> rfl
  have h3 : ∀ b : Int, (b == b) = true := fun b => by simp
  unfold Canon.opS cellsB
  go_simp
end Go.Proofs.Ytfhigpmpngfkbaa.Pte
namespace Go.Proofs.Ytfhigpmpngfkbaa.PteTellsW
open Go.RowKit Go.Proofs.YtfhigpmpngfkbaaW.PrintWords Go.Proofs.YtfhigpmpngfkbaaW.PrintLast Go.Proofs.YtfhigpmpngfkbaaW.PrintMore Go.Proofs.Ytfhigpmpngfkbaa.Bits Go.Proofs.Ytfhigpmpngfkbaa.FC Go.Proofs.Ytfhigpmpngfkbaa.Opens Go.Proofs.Ytfhigpmpngfkbaa.Pte
set_option maxRecDepth 100000 in
set_option maxHeartbeats 1000000 in
theorem main (e : Nat → Bool) (f x : BitVec 64) (W : World) : Calls Try.prog 10 #[.agg (cellsB e f), .int .u64 (u x)] W fun r W' => r = .returned (.bool true) ∧ Below W.heap.size W W' := by
  go_enter Try.func10, Try.ntmps10
  go_wp2_with fail
  have hI : EI W 46 e f (W.alloc (Obj.cells (cellsB e f) 46)) := ⟨Array.getElem?_push_size, (Below.refl _ _).alloc (Nat.le_refl _) _⟩
  refine Canon.region_canon (I := EI W 46 e f) (by kernel_rfl) (by decide +kernel) ⟨hI.1, hI.2.drew⟩ ?_
  refine Canon.readsS (Canon.ldS 46 (.pointer (some ⟨W.heap.size, 0, none⟩))) (.agg (cellsB e f)) (by kernel_rfl) (by kernel_rfl) (fun w hw => ei_load hw) ?_
  refine Canon.call (.int .u64 (u (wordB e f))) 31 #[.agg (cellsB e f)] (by kernel_rfl) (fun w => by kernel_rfl) (fun w hw => (word_c e f w).mono fun r w1 ⟨he, hb⟩ => ⟨he, ei_call hw hb⟩) ?_
  refine Canon.readsS (Canon.ldS 46 (.pointer (some ⟨W.heap.size, 0, none⟩))) (.agg (cellsB e f)) (by kernel_rfl) (by kernel_rfl) (fun w hw => ei_load hw) ?_
  refine Canon.call (.int .u64 (u (wordB e f))) 32 #[.agg (cellsB e f)] (by kernel_rfl) (fun w => by kernel_rfl) (fun w hw => (rword_w e f w).mono fun r w1 ⟨he, hb⟩ => ⟨he, ei_call hw hb⟩) ?_
  refine Canon.pureS (Canon.opS .eql 22 (.tmp 6) (.tmp 8) (.int .u64 (u (wordB e f))) (.int .u64 (u (wordB e f)))) (.bool true) (by kernel_rfl) (by kernel_rfl) (fun w => by go_simp) ?_
  refine Canon.pure (.bool true) (by kernel_rfl) (fun w => by kernel_rfl) ?_
  refine Canon.pure (.int .u64 (u x)) (by kernel_rfl) (fun w => by kernel_rfl) ?_
  refine Canon.call (.agg (cellsB (bitsOf x) (getI x 10 44))) 30 #[.int .u64 (u x)] (by kernel_rfl) (fun w => by kernel_rfl) (fun w hw => (of_w x w).mono fun r w1 ⟨he, hb⟩ => ⟨he, ei_call hw hb⟩) ?_
  refine Canon.pure (.int .u64 (u x)) (by kernel_rfl) (fun w => by kernel_rfl) ?_
  refine Canon.call (.agg (cellsB (bitsOf x) (getI x 10 44))) 33 #[.int .u64 (u x)] (by kernel_rfl) (fun w => by kernel_rfl) (fun w hw => (rof_c x w).mono fun r w1 ⟨he, hb⟩ => ⟨he, ei_call hw hb⟩) ?_
  refine Canon.pureS (Canon.opS .eql 51 (.tmp 12) (.tmp 14) (.agg (cellsB (bitsOf x) (getI x 10 44))) (.agg (cellsB (bitsOf x) (getI x 10 44)))) (.bool true) (by kernel_rfl) (by kernel_rfl) (fun w => by exact eq_cells w _ _) ?_
  refine Canon.pure (.bool true) (by kernel_rfl) (fun w => by kernel_rfl) ?_
  refine Canon.pure (.bool true) (by kernel_rfl) (fun w => by kernel_rfl) ?_
  refine Canon.readsS (Canon.ldS 46 (.pointer (some ⟨W.heap.size, 0, none⟩))) (.agg (cellsB e f)) (by kernel_rfl) (by kernel_rfl) (fun w hw => ei_load hw) ?_
  refine Canon.call (.bool (leafB e)) 34 #[.agg (cellsB e f)] (by kernel_rfl) (fun w => by kernel_rfl) (fun w hw => (leaf_c e f w).mono fun r w1 ⟨he, hb⟩ => ⟨he, ei_call hw hb⟩) ?_
  refine Canon.readsS (Canon.ldS 46 (.pointer (some ⟨W.heap.size, 0, none⟩))) (.agg (cellsB e f)) (by kernel_rfl) (by kernel_rfl) (fun w hw => ei_load hw) ?_
  refine Canon.call (.bool (leafB e)) 35 #[.agg (cellsB e f)] (by kernel_rfl) (fun w => by kernel_rfl) (fun w hw => (rleaf_c e f w).mono fun r w1 ⟨he, hb⟩ => ⟨he, ei_call hw hb⟩) ?_
  refine Canon.pureS (Canon.opS .eql 4 (.tmp 19) (.tmp 21) (.bool (leafB e)) (.bool (leafB e))) (.bool true) (by kernel_rfl) (by kernel_rfl) (fun w => by go_simp) ?_
  refine Canon.pure (.bool true) (by kernel_rfl) (fun w => by kernel_rfl) ?_
  refine Canon.pure (.bool true) (by kernel_rfl) (fun w => by kernel_rfl) ?_
  refine Canon.readsS (Canon.ldS 46 (.pointer (some ⟨W.heap.size, 0, none⟩))) (.agg (cellsB e f)) (by kernel_rfl) (by kernel_rfl) (fun w hw => ei_load hw) ?_
  refine Canon.call (.bool (rightB e f)) 36 #[.agg (cellsB e f)] (by kernel_rfl) (fun w => by kernel_rfl) (fun w hw => (right_c e f w).mono fun r w1 ⟨he, hb⟩ => ⟨he, ei_call hw hb⟩) ?_
  refine Canon.readsS (Canon.ldS 46 (.pointer (some ⟨W.heap.size, 0, none⟩))) (.agg (cellsB e f)) (by kernel_rfl) (by kernel_rfl) (fun w hw => ei_load hw) ?_
  refine Canon.call (.bool (rightB e f)) 37 #[.agg (cellsB e f)] (by kernel_rfl) (fun w => by kernel_rfl) (fun w hw => (rright_c e f w).mono fun r w1 ⟨he, hb⟩ => ⟨he, ei_call hw hb⟩) ?_
  refine Canon.pureS (Canon.opS .eql 4 (.tmp 26) (.tmp 28) (.bool (rightB e f)) (.bool (rightB e f))) (.bool true) (by kernel_rfl) (by kernel_rfl) (fun w => by go_simp) ?_
  refine Canon.pure (.bool true) (by kernel_rfl) (fun w => by kernel_rfl) ?_
  refine Canon.pure (.bool true) (by kernel_rfl) (fun w => by kernel_rfl) ?_
  refine Canon.pure (.agg cells5) (by kernel_rfl) (fun w => by kernel_rfl) ?_
  refine Canon.call (.int .u64 5123) 31 #[.agg cells5] (by kernel_rfl) (fun w => by kernel_rfl) (fun w hw => (word_5 w).mono fun r w1 ⟨he, hb⟩ => ⟨he, ei_call hw hb⟩) ?_
  refine Canon.pureS (Canon.opS .eql 22 (.tmp 33) (.const (.int .u64 5123)) (.int .u64 5123) (.int .u64 5123)) (.bool true) (by kernel_rfl) (by kernel_rfl) (fun w => by go_simp) ?_
  refine Canon.pure (.bool true) (by kernel_rfl) (fun w => by kernel_rfl) ?_
  refine Canon.pure (.bool true) (by kernel_rfl) (fun w => by kernel_rfl) ?_
  refine Canon.fin fun wc hw => ?_
  go_wp2_with fail
  exact bodyPost_ret (v := .bool true) (by kernel_rfl) (by kernel_rfl) ⟨rfl, hw.2⟩
theorem walk (W : World) (base : Nat) (v0 v1 : Value) (o0 : Value.okWide Try.prog W .any base 46 v0) (o1 : Value.okWide Try.prog W .any base 22 v1) :
    Calls Try.prog 10 #[v0, v1] W fun e W' => e = .returned (.bool true) ∧ Below W.heap.size W W' := by
  obtain ⟨e, f, rfl⟩ := val_entry o0
  obtain ⟨x, rfl⟩ := val_u64 Try.underlying22 o1
  exact main e f x W
end Go.Proofs.Ytfhigpmpngfkbaa.PteTellsW
