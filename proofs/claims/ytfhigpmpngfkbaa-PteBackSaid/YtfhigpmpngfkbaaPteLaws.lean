/- The bits of an entry's number, and what they tell back. No condition. -/
import Derived.Test.YtfhigpmpngfkbaaPteRightC
import Derived.Test.YtfhigpmpngfkbaaFieldLaws
import Derived.Test.YtfhigpmpngfkbaaOpen
namespace Go.Proofs.Ytfhigpmpngfkbaa.Pte
open Go.RowKit Go.Proofs.Ytfhigpmpngfkbaa.Bits Go.Proofs.Ytfhigpmpngfkbaa.Opens
def anyAt (e : Nat → Bool) : Nat → Nat → Bool
  | 0, _ => false
  | k + 1, i => anyAt e k i || (e k && pl k == i)
theorem one_bit (n i : Nat) (hi : i < 64) : (1#64 <<< n).getLsbD i = (n == i) := by
  rw [BitVec.getLsbD_shiftLeft, BitVec.getLsbD_one]
  by_cases h : n = i
  · subst h; simp [hi]
  · by_cases h2 : i < n
    · simp [h2, h]
    · have : ¬ i - n = 0 := by omega
      simp [h, this]
theorem upTo_bit (e : Nat → Bool) (y : BitVec 64) (i : Nat) (hi : i < 64) : ∀ k, (upTo e k y).getLsbD i = (y.getLsbD i || anyAt e k i)
  | 0 => by simp [upTo, anyAt]
  | k + 1 => by
    unfold upTo anyAt
    rw [BitVec.getLsbD_or, upTo_bit e y i hi k]
    cases e k
    · simp
    · simp only [if_true, Bool.true_and]; rw [one_bit _ _ hi, Bool.or_assoc]
theorem any_at (e : Nat → Bool) (j : Nat) (hj : j < 12) : anyAt e 12 (pl j) = e j := by
  have h : j = 0 ∨ j = 1 ∨ j = 2 ∨ j = 3 ∨ j = 4 ∨ j = 5 ∨ j = 6 ∨ j = 7 ∨ j = 8 ∨ j = 9 ∨ j = 10 ∨ j = 11 := by omega
  rcases h with rfl | rfl | rfl | rfl | rfl | rfl | rfl | rfl | rfl | rfl | rfl | rfl <;> simp [anyAt, pl]
theorem any_no (e : Nat → Bool) (i : Nat) (h1 : 8 ≤ i) (h2 : i < 58) : anyAt e 12 i = false := by
  have h : ∀ k, (pl k == i) = false ∨ 12 ≤ k := fun k => by
    by_cases hk : k < 12
    · left; unfold pl; rw [beq_eq_false_iff_ne]; split <;> omega
    · right; omega
  have g : ∀ k, k ≤ 12 → anyAt e k i = false := by
    intro k
    induction k with
    | zero => intro _; rfl
    | succ k ih =>
      intro hk
      unfold anyAt
      rw [ih (by omega)]
      rcases h k with h3 | h3
      · rw [h3]; simp
      · omega
  exact g 12 (Nat.le_refl _)
theorem putI_44 (f : BitVec 64) : putI 0#64 10 44 f = put 0#64 10 44 f := rfl
theorem getI_44 (x : BitVec 64) : getI x 10 44 = get x 10 44 := rfl
theorem word_bit (e : Nat → Bool) (f : BitVec 64) (i : Nat) (hi : i < 64) : (wordB e f).getLsbD i = ((if 10 ≤ i ∧ i < 54 then f.getLsbD (i - 10) else false) || anyAt e 12 i) := by
  unfold wordB
  rw [upTo_bit _ _ _ hi, putI_44, put_bit _ _ _ _ _ (by omega) hi]
  by_cases h : 10 ≤ i ∧ i < 54
  · rw [if_pos h, if_pos h]
  · rw [if_neg h, if_neg h]; simp
theorem word_flag (e : Nat → Bool) (f : BitVec 64) (j : Nat) (hj : j < 12) : bitsOf (wordB e f) j = e j := by
  have hp : pl j < 64 ∧ ¬ (10 ≤ pl j ∧ pl j < 54) := by unfold pl; split <;> omega
  unfold bitsOf
  rw [word_bit _ _ _ hp.1, if_neg hp.2, any_at e j hj, Bool.false_or]
theorem word_frame (e : Nat → Bool) (f : BitVec 64) : getI (wordB e f) 10 44 = f &&& mask 44 := by
  rw [getI_44]
  apply Bits.ext; intro i hi
  rw [get_bit _ _ _ _ (by omega), BitVec.getLsbD_and, mask_bit _ _ (by omega)]
  by_cases h : i < 44
  · rw [word_bit _ _ _ (by omega), if_pos (by omega), any_no e _ (by omega) (by omega), show 10 + i - 10 = i by omega]; simp [h]
  · simp [h]
theorem cells_congr {e e' : Nat → Bool} {f f' : BitVec 64} (h : ∀ j, j < 12 → e j = e' j) (hf : f = f') : cellsB e f = cellsB e' f' := by
  unfold cellsB
  rw [h 0 (by omega), h 1 (by omega), h 2 (by omega), h 3 (by omega), h 4 (by omega), h 5 (by omega), h 6 (by omega), h 7 (by omega), h 8 (by omega), h 9 (by omega), h 10 (by omega), h 11 (by omega), hf]
theorem of_word (e : Nat → Bool) (f : BitVec 64) : cellsB (fun i => decide (i < 12) && bitsOf (wordB e f) i) (getI (wordB e f) 10 44) = cellsB e (f &&& mask 44) :=
  cells_congr (fun j hj => by rw [word_flag e f j hj]; simp [hj]) (word_frame e f)
theorem word_congr {e e' : Nat → Bool} {f f' : BitVec 64} (h : ∀ j, j < 12 → e j = e' j) (hf : f &&& mask 44 = f' &&& mask 44) : wordB e f = wordB e' f' := by
  apply Bits.ext; intro i hi
  rw [word_bit _ _ _ hi, word_bit _ _ _ hi]
  have ha : ∀ k, k ≤ 12 → anyAt e k i = anyAt e' k i := by
    intro k
    induction k with
    | zero => intro _; rfl
    | succ k ih => intro hk; unfold anyAt; rw [ih (by omega), h k (by omega)]
  rw [ha 12 (Nat.le_refl _)]
  by_cases h2 : 10 ≤ i ∧ i < 54
  · rw [if_pos h2, if_pos h2]
    have := congrArg (fun y => BitVec.getLsbD y (i - 10)) hf
    simp only [BitVec.getLsbD_and, mask_bit _ _ (show 44 ≤ 64 by omega)] at this
    have h3 : i - 10 < 44 := by omega
    simp only [h3, decide_true, Bool.and_true] at this
    rw [this]
  · rw [if_neg h2, if_neg h2]
/-- An argument that is an entry. -/
theorem val_entry {W : World} {r : Reach} {b : Nat} {v : Value} (h : Value.okWide Try.prog W r b 46 v) : ∃ (e : Nat → Bool) (f : BitVec 64), v = .agg (cellsB e f) := by
  obtain ⟨cs, rfl, hsz, hall⟩ := val_cells (P := Try.prog) (t := 46) (ts := [4, 4, 4, 4, 4, 4, 4, 4, 4, 4, 4, 4, 22]) (n := 13) (.inl ⟨_, Try.underlying46⟩) (by kernel_rfl) (by kernel_rfl) h
  obtain ⟨c0, c1, c2, c3, c4, c5, c6, c7, c8, c9, c10, c11, c12, rfl⟩ := arr13 hsz
  obtain ⟨t0, ht0, ok0⟩ := hall 0 c0 rfl
  cases ht0
  obtain ⟨b0, rfl⟩ := cell_bool Try.underlying4 ok0
  obtain ⟨t1, ht1, ok1⟩ := hall 1 c1 rfl
  cases ht1
  obtain ⟨b1, rfl⟩ := cell_bool Try.underlying4 ok1
  obtain ⟨t2, ht2, ok2⟩ := hall 2 c2 rfl
  cases ht2
  obtain ⟨b2, rfl⟩ := cell_bool Try.underlying4 ok2
  obtain ⟨t3, ht3, ok3⟩ := hall 3 c3 rfl
  cases ht3
  obtain ⟨b3, rfl⟩ := cell_bool Try.underlying4 ok3
  obtain ⟨t4, ht4, ok4⟩ := hall 4 c4 rfl
  cases ht4
  obtain ⟨b4, rfl⟩ := cell_bool Try.underlying4 ok4
  obtain ⟨t5, ht5, ok5⟩ := hall 5 c5 rfl
  cases ht5
  obtain ⟨b5, rfl⟩ := cell_bool Try.underlying4 ok5
  obtain ⟨t6, ht6, ok6⟩ := hall 6 c6 rfl
  cases ht6
  obtain ⟨b6, rfl⟩ := cell_bool Try.underlying4 ok6
  obtain ⟨t7, ht7, ok7⟩ := hall 7 c7 rfl
  cases ht7
  obtain ⟨b7, rfl⟩ := cell_bool Try.underlying4 ok7
  obtain ⟨t8, ht8, ok8⟩ := hall 8 c8 rfl
  cases ht8
  obtain ⟨b8, rfl⟩ := cell_bool Try.underlying4 ok8
  obtain ⟨t9, ht9, ok9⟩ := hall 9 c9 rfl
  cases ht9
  obtain ⟨b9, rfl⟩ := cell_bool Try.underlying4 ok9
  obtain ⟨t10, ht10, ok10⟩ := hall 10 c10 rfl
  cases ht10
  obtain ⟨b10, rfl⟩ := cell_bool Try.underlying4 ok10
  obtain ⟨t11, ht11, ok11⟩ := hall 11 c11 rfl
  cases ht11
  obtain ⟨b11, rfl⟩ := cell_bool Try.underlying4 ok11
  obtain ⟨t12, ht12, ok12⟩ := hall 12 c12 rfl
  cases ht12
  obtain ⟨f, rfl⟩ := cell_u64 Try.underlying22 ok12
  exact ⟨fun i => [b0, b1, b2, b3, b4, b5, b6, b7, b8, b9, b10, b11].getD i false, f, rfl⟩
end Go.Proofs.Ytfhigpmpngfkbaa.Pte
