/- Slices of rows: where an element is, and what is read there. No program in sight. -/
import Derived.Test.YtfhigpmpngfkbaaKwJ
namespace Go.Proofs.Ytfhigpmpngfkbaa.Sl
open Go Go.RowKit
set_option linter.unusedVariables false
variable {P : Program}
abbrev ixaS (t : TypeId) (x i : Value) : Sem Next := do Pure.pure (.value (← Instr.indexAt t x i))
theorem sizeOf_run {e : TypeId} {sz : Nat} (hz : (P.info? e).map (·.size) = some sz) (w : World) : (sizeOf e).run P w = .ok sz w := by
  cases hq : P.info? e with
  | none => simp [hq] at hz
  | some i => simp [hq] at hz; simp [sizeOf, typeInfo, Sem.run_bind, hq, hz]
theorem ixa {t e : TypeId} {sz : Nat} (hu : P.underlying t = some (.slice e)) (hz : (P.info? e).map (·.size) = some sz) (B o len cap k : Nat) (hk : k < len) (w : World) :
    (ixaS t (.slice (some ⟨B, o, none⟩) len cap) (.int .i64 (k : Int))).run P w = .ok (.value (.pointer (some ⟨B, o + k * sz, none⟩))) w := by
  have h1 : (underlying t).run P w = .ok (.slice e) w := run_underlying hu w
  have h2 := sizeOf_run hz w
  have h5 : (0 : Int) ≤ (k : Int) ∧ (k : Int) < (len : Int) := by omega
  unfold ixaS Instr.indexAt
  simp [asIntOf, Sem.run_bind, h1, h2, h5, Addr.add]
  rw [if_pos hk]
  by_cases h : k * sz = 0
  · rw [if_pos h, h]; rfl
  · rw [if_neg h]
theorem cell_of {cs : Array Value} {o n : Nat} {vs : List Value} (h : (cs.extract o (o + n)).toList = vs) (i : Nat) (hi : i < n) (v : Value) (hv : vs[i]? = some v) : cs[o + i]? = some v := by
  rw [← h, Array.getElem?_toList, Array.getElem?_extract] at hv
  split at hv
  · exact hv
  · cases hv
end Go.Proofs.Ytfhigpmpngfkbaa.Sl
