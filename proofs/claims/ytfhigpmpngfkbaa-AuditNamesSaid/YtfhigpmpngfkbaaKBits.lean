/- Whole numbers of 64 bits as bit vectors: how Go's operations on them read. No condition. -/
import Derived.RowKit
import GoSem.Claim
namespace Go.Proofs.Ytfhigpmpngfkbaa.Bits
open Go Go.RowKit

/-- A shift to the left, and one to the right, as Go's: a count beyond the width leaves nothing, or the sign. -/
def shl (k : IntKind) (x y : Int) : Int := k.wrap (x * 2 ^ min y.toNat k.bits)
def shr (k : IntKind) (x y : Int) : Int := x / 2 ^ min y.toNat k.bits
/-- A word as a number without a sign. -/
def u (x : BitVec 64) : Int := (x.toNat : Int)
/-- A word as a number with a sign. -/
def s (x : BitVec 64) : Int := x.toInt

theorem u_lt (x : BitVec 64) : 0 ≤ u x ∧ u x < 18446744073709551616 := by
  unfold u; have := x.isLt; omega
theorem s_lt (x : BitVec 64) : -9223372036854775808 ≤ s x ∧ s x < 9223372036854775808 := by
  unfold s; have h1 := BitVec.le_toInt x; have h2 := BitVec.toInt_lt (x := x)
  simp only [Nat.reduceSub] at h1 h2; omega
theorem u_inj {x y : BitVec 64} (h : u x = u y) : x = y := by
  unfold u at h; exact BitVec.eq_of_toNat_eq (by omega)
theorem s_inj {x y : BitVec 64} (h : s x = s y) : x = y := BitVec.eq_of_toInt_eq h
theorem u_eq {x y : BitVec 64} : u x = u y ↔ x = y := ⟨u_inj, fun h => h ▸ rfl⟩
theorem s_eq {x y : BitVec 64} : s x = s y ↔ x = y := ⟨s_inj, fun h => h ▸ rfl⟩

theorem u_of {a : Int} (h : (Lit.int .u64 a).wf = true) : ∃ x, a = u x := by
  have hmin : IntKind.u64.min = 0 := rfl
  have hmax : IntKind.u64.max = 18446744073709551615 := rfl
  simp only [Lit.wf, Bool.and_eq_true, decide_eq_true_eq] at h
  refine ⟨BitVec.ofNat 64 a.toNat, ?_⟩
  unfold u; rw [BitVec.toNat_ofNat]; omega
theorem s_of {a : Int} (h : (Lit.int .i64 a).wf = true) : ∃ x, a = s x := by
  have hmin : IntKind.i64.min = -9223372036854775808 := rfl
  have hmax : IntKind.i64.max = 9223372036854775807 := rfl
  simp only [Lit.wf, Bool.and_eq_true, decide_eq_true_eq] at h
  refine ⟨BitVec.ofInt 64 a, ?_⟩
  unfold s; rw [BitVec.toInt_ofInt, Int.bmod_def]; simp only [Nat.reducePow]; omega

theorem wrap_u64 (n : Int) : IntKind.u64.wrap n = n % 18446744073709551616 := by
  simp [IntKind.wrap, IntKind.signed, IntKind.bits]
theorem ofInt_u (x : BitVec 64) : BitVec.ofInt 64 (u x) = x := by unfold u; simp
theorem ofInt_s (x : BitVec 64) : BitVec.ofInt 64 (s x) = x := by unfold s; simp
theorem wrap_nat (x : BitVec 64) : IntKind.u64.wrap (x.toNat : Int) = u x := by
  rw [wrap_u64]; unfold u; have := x.isLt; omega
theorem wrap_int (n : Int) : IntKind.u64.wrap n = u (BitVec.ofInt 64 n) := by
  rw [wrap_u64]; unfold u; rw [BitVec.toNat_ofInt]; simp only [Nat.reducePow]; omega
theorem wrap_i64 (n : Int) : wrap64 n = s (BitVec.ofInt 64 n) := by
  unfold s wrap64; rw [BitVec.toInt_ofInt, Int.bmod_def]; simp only [Nat.reducePow]; omega
theorem wrap_s (x : BitVec 64) : IntKind.u64.wrap (s x) = u x := by rw [wrap_int, ofInt_s]
theorem wrap_u (x : BitVec 64) : IntKind.u64.wrap (u x) = u x := by rw [wrap_int, ofInt_u]
theorem wrap64_u (x : BitVec 64) : wrap64 (u x) = s x := by rw [wrap_i64, ofInt_u]
theorem wrap64_s (x : BitVec 64) : wrap64 (s x) = s x := by rw [wrap_i64, ofInt_s]

theorem bits_and (x y : BitVec 64) : Go.bits .and .u64 (u x) (u y) = u (x &&& y) := by
  show IntKind.u64.wrap ((BitVec.ofInt 64 (u x) &&& BitVec.ofInt 64 (u y)).toNat : Int) = _
  rw [ofInt_u, ofInt_u, wrap_nat]
theorem bits_or (x y : BitVec 64) : Go.bits .or .u64 (u x) (u y) = u (x ||| y) := by
  show IntKind.u64.wrap ((BitVec.ofInt 64 (u x) ||| BitVec.ofInt 64 (u y)).toNat : Int) = _
  rw [ofInt_u, ofInt_u, wrap_nat]
theorem bits_xor (x y : BitVec 64) : Go.bits .xor .u64 (u x) (u y) = u (x ^^^ y) := by
  show IntKind.u64.wrap ((BitVec.ofInt 64 (u x) ^^^ BitVec.ofInt 64 (u y)).toNat : Int) = _
  rw [ofInt_u, ofInt_u, wrap_nat]
theorem bits_andNot (x y : BitVec 64) : Go.bits .andNot .u64 (u x) (u y) = u (x &&& ~~~y) := by
  show IntKind.u64.wrap ((BitVec.ofInt 64 (u x) &&& ~~~(BitVec.ofInt 64 (u y))).toNat : Int) = _
  rw [ofInt_u, ofInt_u, wrap_nat]
theorem wrapi_nat (x : BitVec 64) : IntKind.i64.wrap (x.toNat : Int) = s x := by
  have : IntKind.i64.wrap (x.toNat : Int) = wrap64 (x.toNat : Int) := by
    have := x.isLt
    simp only [IntKind.wrap, IntKind.signed, IntKind.bits, wrap64, Bool.true_and]
    simp only [Nat.reduceSub, Int.reducePow]
    by_cases h : ((x.toNat : Int) % 18446744073709551616) ≥ 9223372036854775808
    · simp only [h, decide_true, if_true]; omega
    · simp only [h, decide_false]; first | (simp; done) | omega | (simp; omega)
  rw [this]; exact wrap64_u x
theorem bits_andi (x y : BitVec 64) : Go.bits .and .i64 (s x) (s y) = s (x &&& y) := by
  show IntKind.i64.wrap ((BitVec.ofInt 64 (s x) &&& BitVec.ofInt 64 (s y)).toNat : Int) = _
  rw [ofInt_s, ofInt_s, wrapi_nat]

theorem wrap_add (x y : BitVec 64) : IntKind.u64.wrap (u x + u y) = u (x + y) := by
  rw [wrap_int, BitVec.ofInt_add, ofInt_u, ofInt_u]
theorem wrap_sub (x y : BitVec 64) : IntKind.u64.wrap (u x - u y) = u (x - y) := by
  rw [wrap_u64]; unfold u; rw [BitVec.toNat_sub]
  have := x.isLt; have := y.isLt; simp only [Nat.reducePow]; omega

theorem shl_u (x : BitVec 64) (n : Int) : shl .u64 (u x) n = u (x <<< n.toNat) := by
  unfold shl
  rw [show (2 : Int) ^ min n.toNat IntKind.u64.bits = ((2 ^ min n.toNat 64 : Nat) : Int) by simp [IntKind.bits]]
  rw [wrap_u64]; unfold u
  rw [BitVec.toNat_shiftLeft, Nat.shiftLeft_eq]
  by_cases h : n.toNat ≤ 64
  · rw [Nat.min_eq_left h]; simp only [Nat.reducePow]; rw [← Int.natCast_mul]; omega
  · rw [Nat.min_eq_right (by omega)]
    have e : 2 ^ n.toNat = 2 ^ 64 * 2 ^ (n.toNat - 64) := by rw [← Nat.pow_add]; congr 1; omega
    rw [e, ← Nat.mul_assoc, Nat.mul_right_comm, Nat.mul_mod_left]; simp only [Nat.reducePow]; omega
theorem shr_u (x : BitVec 64) (n : Int) : shr .u64 (u x) n = u (x >>> n.toNat) := by
  unfold shr
  rw [show (2 : Int) ^ min n.toNat IntKind.u64.bits = ((2 ^ min n.toNat 64 : Nat) : Int) by simp [IntKind.bits]]
  unfold u
  rw [BitVec.toNat_ushiftRight, Nat.shiftRight_eq_div_pow]
  by_cases h : n.toNat ≤ 64
  · rw [Nat.min_eq_left h, ← Int.natCast_ediv]
  · rw [Nat.min_eq_right (by omega), ← Int.natCast_ediv]
    have hx := x.isLt
    have e : 2 ^ n.toNat = 2 ^ 64 * 2 ^ (n.toNat - 64) := by rw [← Nat.pow_add]; congr 1; omega
    rw [e, ← Nat.div_div_eq_div_mul, Nat.div_eq_of_lt hx]; simp
theorem shr_s (x : BitVec 64) (n : Int) : shr .i64 (s x) n = s (x.sshiftRight n.toNat) := by
  unfold shr s
  rw [show (2 : Int) ^ min n.toNat IntKind.i64.bits = ((2 ^ min n.toNat 64 : Nat) : Int) by simp [IntKind.bits]]
  rw [BitVec.toInt_sshiftRight, Int.shiftRight_eq_div_pow]
  by_cases h : n.toNat ≤ 64
  · rw [Nat.min_eq_left h]
  · rw [Nat.min_eq_right (by omega)]
    have h1 := BitVec.le_toInt x; have h2 := BitVec.toInt_lt (x := x)
    simp only [Nat.reduceSub] at h1 h2
    have e : (2 : Int) ^ 64 ≤ ((2 ^ n.toNat : Nat) : Int) := by
      have : 2 ^ 64 ≤ 2 ^ n.toNat := Nat.pow_le_pow_right (by omega) (by omega)
      omega
    have key : ∀ (a b : Int), -9223372036854775808 ≤ a → a < 9223372036854775808 → 18446744073709551616 ≤ b → a / b = if a < 0 then -1 else 0 := by
      intro a b ha hb hc
      by_cases hn : a < 0
      · rw [if_pos hn]; exact Int.ediv_eq_neg_one_of_neg_of_le hn (by omega)
      · rw [if_neg hn]; exact Int.ediv_eq_zero_of_lt (by omega) (by omega)
    rw [key _ _ (by omega) (by omega) (by simp), key _ _ (by omega) (by omega) (by omega)]
end Go.Proofs.Ytfhigpmpngfkbaa.Bits
