/- An entry that is not valid is right; one with fewer rights than one of a page that is right is right; and what a table's entry has is told by its number: the statement's function answers true. No condition but that the argument is of its type. -/
import Derived.Test.YtfhigpmpngfkbaaPteRightW
import Derived.Test.YtfhigpmpngfkbaaPteLaws
namespace Go.Proofs.Ytfhigpmpngfkbaa.PteRightW
open Go.RowKit Go.Proofs.YtfhigpmpngfkbaaW.PrintWords Go.Proofs.YtfhigpmpngfkbaaW.PrintLast Go.Proofs.YtfhigpmpngfkbaaW.PrintMore Go.Proofs.Ytfhigpmpngfkbaa.Bits Go.Proofs.Ytfhigpmpngfkbaa.Opens Go.Proofs.Ytfhigpmpngfkbaa.Pte
theorem main (b0 b1 b2 b3 b4 b5 b6 b7 b8 b9 b10 b11 : Bool) (f : BitVec 64) (W : World) :
    Calls Try.prog 11 #[.agg #[.bool b0, .bool b1, .bool b2, .bool b3, .bool b4, .bool b5, .bool b6, .bool b7, .bool b8, .bool b9, .bool b10, .bool b11, .int .u64 (u f)]] W fun e W' => e = .returned (.bool true) ∧ Below W.heap.size W W' := by
  have hg : ∀ g : BitVec 64, g = f &&& 65535#64 → g &&& mask 44 = g ∧ u g ≤ 65535 := by
    intro g hg
    subst hg
    constructor
    · apply Bits.ext; intro i hi
      rw [BitVec.getLsbD_and, mask_bit _ _ (by omega), BitVec.getLsbD_and]
      by_cases h : i < 44
      · simp [h]
      · have : (65535#64).getLsbD i = false := by
          have e : (65535#64) = mask 16 := by decide
          rw [e, mask_bit _ _ (by omega)]; simp; omega
        simp [this]
    · unfold u
      have : (f &&& 65535#64).toNat ≤ 65535 := by rw [BitVec.toNat_and]; exact Nat.and_le_right
      omega
  have hm : u (maskI 44) = 17592186044415 := by decide
  have hw : ∀ g : BitVec 64, g &&& mask 44 = g → u g ≤ 65535 → wordB (ofL [true, false, false, false, false, false, false, false, false, false, false, false]) g = 1#64 + (g <<< 10) := by
    intro g h1 h2
    have hz : ∀ i, 16 ≤ i → i < 64 → g.getLsbD i = false := by
      intro i h3 h4
      have h5 : g.toNat < 2 ^ i := by
        have : g.toNat ≤ 65535 := by unfold u at h2; omega
        have h6 : 2 ^ 16 ≤ 2 ^ i := Nat.pow_le_pow_right (by omega) h3
        omega
      exact Nat.testBit_lt_two_pow h5
    have hd : (1#64 &&& (g <<< 10)) = 0#64 := by
      apply Bits.ext; intro i hi
      rw [BitVec.getLsbD_and, BitVec.getLsbD_one, BitVec.getLsbD_shiftLeft, BitVec.getLsbD_zero]
      by_cases h : i = 0
      · subst h; simp
      · simp [h]
    rw [BitVec.add_eq_or_of_and_eq_zero _ _ hd]
    apply Bits.ext; intro i hi
    rw [word_bit _ _ _ hi, BitVec.getLsbD_or, BitVec.getLsbD_one, BitVec.getLsbD_shiftLeft]
    have ha : anyAt (ofL [true, false, false, false, false, false, false, false, false, false, false, false]) 12 i = (0 == i) := by
      simp [anyAt, ofL, pl]
    rw [ha]
    by_cases h : i = 0
    · subst h; simp
    · have e0 : (0 == i) = false := by rw [beq_eq_false_iff_ne]; omega
      rw [e0]
      by_cases h3 : i < 10
      · rw [if_neg (by omega)]; simp [h3, h]
      · by_cases h4 : i < 54
        · rw [if_pos ⟨by omega, h4⟩]; simp [h3, hi, h]
        · rw [if_neg (by omega), hz (i - 10) (by omega) (by omega)]; simp [h]
  refine steps b0 b1 b2 b3 b4 b5 b6 b7 b8 b9 b10 b11 f _ _ (by simp [rightB, ofL]) (by simp [leafB, ofL]) rfl rfl ?_ ?_ ?_ ?_ (wordB (ofL [true, false, false, false, false, false, false, false, false, false, false, false]) (f &&& 65535#64)) (fun g h => by rw [h]) ?_ ?_ W
  · unfold rightB wrongB leafB bareB ofL
    generalize decide (u (maskI 44) < u f) = c
    revert b0 b1 b2 b3 b4 b5 b6 b7 b8 b9 b10 b11 c
    simp only [List.getD_cons_zero, List.getD_cons_succ]
    intro b0 b1 b2 b3 b4 b5 b6 b7 b8 b9 b10 b11 c
    cases b0 <;> cases b1 <;> cases b2 <;> cases b3 <;> cases b8 <;> cases b9 <;> cases c <;> simp
  · unfold rightB wrongB leafB bareB ofL
    generalize decide (u (maskI 44) < u f) = c
    simp only [List.getD_cons_zero, List.getD_cons_succ]
    cases b0 <;> cases b1 <;> cases b2 <;> cases b3 <;> cases b8 <;> cases b9 <;> cases c <;> simp
  · unfold rightB wrongB leafB bareB ofL
    generalize decide (u (maskI 44) < u f) = c
    simp only [List.getD_cons_zero, List.getD_cons_succ]
    cases b0 <;> cases b1 <;> cases b2 <;> cases b3 <;> cases b8 <;> cases b9 <;> cases c <;> simp
  · intro g h
    obtain ⟨_, h2⟩ := hg g h
    unfold rightB wrongB leafB bareB ofL
    have hc : decide (u (maskI 44) < u g) = false := decide_eq_false (by rw [hm]; omega)
    rw [hc]
    rfl
  · intro g h
    obtain ⟨h1, h2⟩ := hg g h
    rw [← h, of_word, h1]
    rfl
  · intro g h
    obtain ⟨h1, h2⟩ := hg g h
    have h3 : IntKind.u64.wrap (u g * (1024 : Int)) = u (g <<< 10) := by
      have h := shl_u g 10
      unfold shl at h
      exact h
    refine ⟨h3, ?_⟩
    rw [← h, hw g h1 h2]
    exact wrap_add 1#64 (g <<< 10)
theorem walk (W : World) (base : Nat) (v0 : Value) (o0 : Value.okWide Try.prog W .any base 46 v0) :
    Calls Try.prog 11 #[v0] W fun e W' => e = .returned (.bool true) ∧ Below W.heap.size W W' := by
  obtain ⟨e, f, rfl⟩ := val_entry o0
  exact main _ _ _ _ _ _ _ _ _ _ _ _ _ W
end Go.Proofs.Ytfhigpmpngfkbaa.PteRightW
