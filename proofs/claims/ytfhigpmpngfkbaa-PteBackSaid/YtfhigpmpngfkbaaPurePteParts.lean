/- Any address has the document's indices, page and offset, and may be, or not: of the printed functions. No condition. -/
import Derived.Test.YtfhigpmpngfkbaaPPtePartsx1
import Derived.Test.YtfhigpmpngfkbaaPtePartsP
namespace Go.Proofs.Ytfhigpmpngfkbaa.Pure
open Go.RowKit Go.Proofs.Ytfhigpmpngfkbaa.PPteParts Go.Proofs.YtfhigpmpngfkbaaW.PrintWords Go.Proofs.YtfhigpmpngfkbaaW.PrintLast
open Go.Proofs.Ytfhigpmpngfkbaa.Bits

theorem get_nat (x : BitVec 64) (a w : Nat) (h : a + w ≤ 64) : u (getI x a w) = ((x.toNat / 2 ^ a % 2 ^ w : Nat) : Int) := by
  unfold getI u
  rw [if_pos (show mayB (a : Int) (w : Int) = true from decide_eq_true (by omega)), Int.toNat_natCast, Int.toNat_natCast]
  unfold Bits.get
  rw [BitVec.toNat_and, mask_toNat w (by omega), Nat.and_two_pow_sub_one_eq_mod, BitVec.toNat_ushiftRight, Nat.shiftRight_eq_div_pow]
/-- The index of an address: the program's. -/
theorem index_is (x : BitVec 64) (l : Nat) (h : l < 3) : pte_Index.f (u x) l = some ((x.toNat / 4096 / 512 ^ l % 512 : Nat) : Int) := by
  unfold pte_Index.f
  have e : wrap64 (12 + wrap64 (9 * (l : Int))) = ((12 + 9 * l : Nat) : Int) := by unfold wrap64; omega
  rw [if_neg (by omega), if_neg (by omega), e, field_Get.eq]
  simp only [Option.bind_some]
  rw [show (9 : Int) = ((9 : Nat) : Int) from rfl, get_nat x (12 + 9 * l) 9 (by omega)]
  have : x.toNat / 2 ^ (12 + 9 * l) = x.toNat / 4096 / 512 ^ l := by
    rw [Nat.div_div_eq_div_mul, show (512 : Nat) = 2 ^ 9 from rfl, ← Nat.pow_mul, show (4096 : Nat) = 2 ^ 12 from rfl, ← Nat.pow_add]
  rw [this, show (2 : Nat) ^ 9 = 512 from rfl]
  congr 1; unfold wrap64; omega
theorem div_wrap (n m : Nat) (hn : n < 18446744073709551616) : IntKind.u64.wrap (Int.tdiv (n : Int) (m : Int)) = ((n / m : Nat) : Int) := by
  rw [Int.tdiv_eq_ediv_of_nonneg (by omega), ← Int.natCast_ediv, wrap_u64]
  have : n / m ≤ n := Nat.div_le_self n m
  generalize n / m = q at *
  omega
theorem ref_end (k n l i : Nat) (h : ¬ i < l) (hn : n < 18446744073709551616) : mintmarkref09_Index.l0 (k + 1) n l i = some ((n / 4096 % 512 : Nat) : Int) := by
  simp only [mintmarkref09_Index.l0]
  rw [if_neg (by omega), show (4096 : Int) = ((4096 : Nat) : Int) from rfl, div_wrap n 4096 hn, Int.tmod_eq_emod_of_nonneg (by omega)]
  congr 1; unfold wrap64; omega
theorem ref_step (k n l i : Nat) (h : i < l) (hl : l < 3) (hn : n < 18446744073709551616) : mintmarkref09_Index.l0 (k + 1) n l i = mintmarkref09_Index.l0 k ((n / 512 : Nat) : Int) l ((i + 1 : Nat) : Int) := by
  simp only [mintmarkref09_Index.l0]
  rw [if_pos (by omega), show (512 : Int) = ((512 : Nat) : Int) from rfl, div_wrap n 512 hn, show wrap64 ((i : Int) + 1) = ((i + 1 : Nat) : Int) by unfold wrap64; omega]
theorem ref_in (x : BitVec 64) (l : Nat) (h : l < 3) : mintmarkref09_Index.f 5 (u x) l = some ((x.toNat / 4096 / 512 ^ l % 512 : Nat) : Int) := by
  unfold mintmarkref09_Index.f
  rw [if_neg (by omega), decide_eq_false (by omega)]
  simp only [mintmarkref09_Index.j0, Bool.false_eq_true, if_false]
  unfold u
  have hx := x.isLt
  have e0 : (0 : Int) = ((0 : Nat) : Int) := rfl
  have h3 : l = 0 ∨ l = 1 ∨ l = 2 := by omega
  rcases h3 with rfl | rfl | rfl
  · rw [e0, ref_end 3 x.toNat 0 0 (by omega) (by omega)]; congr 2; omega
  · rw [e0, ref_step 3 x.toNat 1 0 (by omega) (by omega) (by omega), ref_end 2 _ 1 1 (by omega) (by omega)]; congr 2; omega
  · rw [e0, ref_step 3 x.toNat 2 0 (by omega) (by omega) (by omega), ref_step 2 _ 2 1 (by omega) (by omega) (by omega), ref_end 1 _ 2 2 (by omega) (by omega)]; congr 2; omega
theorem ref_out (a l : Int) (k : Nat) (h : l < 0 ∨ l > 2) : mintmarkref09_Index.f (k + 1) a l = some 0 := by
  unfold mintmarkref09_Index.f
  have hj : mintmarkref09_Index.j0 (k + 1) a l true = some 0 := by simp only [mintmarkref09_Index.j0]; rfl
  by_cases h1 : l < 0
  · rw [if_pos h1]; exact hj
  · rw [if_neg h1, decide_eq_true (by omega)]; exact hj
theorem out_is (a l : Int) (h : l < 0 ∨ l > 2) : pte_Index.f a l = some 0 := by
  unfold pte_Index.f
  by_cases h1 : l < 0
  · rw [if_pos h1]
  · rw [if_neg h1, if_pos (by omega)]
theorem index_one : pte_Index.f 12288 0 = some 3 := by
  have e1 : (12288 : Int) = u 12288#64 := by unfold u; simp
  have e2 := index_is 12288#64 0 (by omega)
  have e3 : (12288#64).toNat / 4096 / 512 ^ 0 % 512 = 3 := by simp
  rw [e3] at e2
  rw [e1]; exact e2
theorem law_is (k : Nat) (a0 a1 r : Int) (h1 : pte_Index.f a0 a1 = some r) (h2 : mintmarkref09_Index.f k a0 a1 = some r) : mintmarklaw09_PteParts.f k a0 a1 = some true := by
  unfold mintmarklaw09_PteParts.f
  rw [h1, h2, index_one]
  unfold pte_Number.f pte_Offset.f pte_Address.f pte_May.f
  simp only [Option.bind_some, if_true, beq_self_eq_true]
/-- The statement. -/
theorem PteParts : mintmarklaw09_PteParts.Pure := by
  intro a0 a1 w0 w1
  obtain ⟨x, rfl⟩ := u_of w0
  by_cases h : a1 < 0 ∨ a1 > 2
  · exact ⟨5, law_is 5 _ _ 0 (out_is _ _ h) (ref_out _ _ 4 h)⟩
  · obtain ⟨l, rfl⟩ := Int.eq_ofNat_of_zero_le (show 0 ≤ a1 by omega)
    exact ⟨5, law_is 5 _ _ _ (index_is x l (by omega)) (ref_in x l (by omega))⟩

end Go.Proofs.Ytfhigpmpngfkbaa.Pure
