/- Digits, lines and texts as lists of bytes; what Go's operations on strings make of them. No program in sight. -/
import Derived.Test.YtfhigpmpngfkbaaKO
import Derived.Test.YtfhigpmpngfkbaaKBits
import Derived.Laws.BytesArg
import Derived.Lib.UnsafeStr
namespace Go.Proofs.Ytfhigpmpngfkbaa.Aud
open Go Go.RowKit Go.Proofs.Ytfhigpmpngfkbaa.K2 Go.Proofs.Ytfhigpmpngfkbaa.KO
set_option linter.unusedVariables false
def bs (l : List UInt8) : ByteArray := ⟨l.toArray⟩
theorem bs_inj {x y : List UInt8} : bs x = bs y ↔ x = y := ⟨fun h => by have := congrArg (fun b : ByteArray => b.data.toList) h; simpa [bs] using this, fun h => by rw [h]⟩
theorem bs_size (l : List UInt8) : (bs l).size = l.length := by simp [bs, ByteArray.size]
theorem bs_append (x y : List UInt8) : bs x ++ bs y = bs (x ++ y) := by
  apply ByteArray.ext
  simp [bs]
theorem str_add {P : Program} (T : TypeId) (X Y : Operand) (x y : List UInt8) (h : x.length + y.length ≤ 9223372036854775807) (w : World) : (Canon.opS .add T X Y (.string (bs x)) (.string (bs y))).run P w = .ok (.value (.string (bs (x ++ y)))) w := by
  have h2 : ¬ (((bs x).size + (bs y).size : Nat) : Int) > IntKind.i64.max := by
    rw [bs_size, bs_size]
    have : IntKind.i64.max = 9223372036854775807 := rfl
    omega
  simp only [Canon.opS, eqGuard, binOp, Op.stringOp, if_neg h2, bs_append]
  rfl
theorem tmod_nat (m k : Nat) : ((m : Int).tmod (k : Int)) = ((m % k : Nat) : Int) := rfl
theorem tdiv_nat (m k : Nat) : ((m : Int).tdiv (k : Int)) = ((m / k : Nat) : Int) := rfl
def digC (m : Nat) : UInt8 := UInt8.ofNat (48 + m % 10)
theorem digC_val (m : Nat) : ((digC m).toNat : Int) = 48 + ((m % 10 : Nat) : Int) := by
  unfold digC
  have : (UInt8.ofNat (48 + m % 10)).toNat = 48 + m % 10 := by
    rw [UInt8.toNat_ofNat']
    omega
  rw [this]; omega
/-- A number's digits. -/
def dig (n : Nat) : List UInt8 := if n < 10 then [digC n] else dig (n / 10) ++ [digC n]
termination_by n
decreasing_by omega
theorem dig_lt {n : Nat} (h : n < 10) : dig n = [digC n] := by rw [dig, if_pos h]
theorem dig_ge {n : Nat} (h : ¬ n < 10) : dig n = dig (n / 10) ++ [digC n] := by rw [dig, if_neg h]
theorem dig_len (k : Nat) : ∀ n, n < 10 ^ k → 1 ≤ k → (dig n).length ≤ k := by
  induction k with
  | zero => intro n _ h; omega
  | succ k ih =>
    intro n hn _
    by_cases h : n < 10
    · rw [dig_lt h]; simp
    · rw [dig_ge h]
      have hk : 1 ≤ k := by
        rcases Nat.eq_zero_or_pos k with rfl | hk
        · simp at hn; omega
        · exact hk
      have := ih (n / 10) (by rw [Nat.pow_succ] at hn; omega) hk
      simp; omega
abbrev cvS (src dst : TypeId) (x : Value) : Sem Next := do Pure.pure (.value (← convert src dst x))
theorem byte_cells (l : List UInt8) : (l.map fun b => ((b.toNat : Nat) : Int)).map (Value.int .u8) = Lib.byteCells l := by simp [Lib.byteCells, List.map_map, Function.comp_def]
theorem str_of {P : Program} {S : List Nat} {W w : World} {ml : List (Option Nat × Array Value × TypeId)} (src dst e : TypeId) (hs : P.underlying src = some (.slice e)) (he : P.underlying e = some (.int .u8)) (hd : P.underlying dst = some .string)
    {ob : Option Nat} {n cap : Nat} {cur : Array Value} {l : List UInt8} (O : Own ob n cap cur 1 (Lib.byteCells l)) (M : Mem S W w ml) (k : Nat) (hk : ml[k]? = some (ob, cur, e)) :
    (cvS src dst (slv ob n cap)).run P w = .ok (.value (.string (bs l))) w := by
  have hn : l.length = n := by have := O.len; rw [Lib.byteCells_length] at this; omega
  have key : (convert src dst (slv ob n cap)).run P w = .ok (.string (bs l)) w := by
    cases ob with
    | none =>
      obtain rfl := O.nil rfl
      obtain rfl := List.eq_nil_of_length_eq_zero hn
      exact run_convert_bytes_nil w src e hs he 0 0 dst hd
    | some B =>
      have hB := M.get k hk
      have hc := own_cells O hB
      have h := run_convert_bytes_arg w src e hs he B 0 n cap (l.map fun b => ((b.toNat : Nat) : Int)) (by simpa using hn) (fun i hi => by
        have h1 : (Lib.byteCells l)[i]? = some (.int .u8 ((l.map fun b => ((b.toNat : Nat) : Int)).getD i 0)) := by
          rw [← byte_cells]
          have hi2 : i < l.length := by omega
          simp [List.getElem?_eq_getElem hi2, List.getD]
        have h2 := hc i _ h1
        rw [Addr.add_lit] at h2
        exact h2) dst hd
      rw [show slv (some B) n cap = .slice (some ⟨B, 0, none⟩) n cap from rfl, h]
      have : strOfNums (l.map fun b => ((b.toNat : Nat) : Int)) = bs l := by
        unfold strOfNums bs
        congr 1
        simp [List.map_map, Function.comp_def]
      rw [this]
  unfold cvS
  simp only [Sem.run_bind, key, Result.andThen_ok]
  rfl
end Go.Proofs.Ytfhigpmpngfkbaa.Aud
