/- Arguments that hold no addresses are told by their cells alone. No condition. -/
import Derived.Test.YtfhigpmpngfkbaaKBits
import Derived.WideShapes
import Derived.ProofKit
namespace Go.Proofs.Ytfhigpmpngfkbaa.Opens
open Go.Proofs.Ytfhigpmpngfkbaa.Bits

variable {P : Program} {W : World} {r : Reach} {b : Nat} {t : TypeId} {v : Value}

theorem cell_int {k : IntKind} (ht : P.underlying t = some (.int k)) (h : Cell.okWide P W r b t v) : ∃ n, v = .int k n ∧ (Lit.int k n).wf = true := by
  simp only [Cell.okWide, ht] at h
  cases v <;> simp_all [Cell.ok]
  simp only [Lit.wf, IntKind.has] at *; simp [h]
theorem cell_bool (ht : P.underlying t = some .bool) (h : Cell.okWide P W r b t v) : ∃ n, v = .bool n := by
  simp only [Cell.okWide, ht] at h
  cases v <;> simp_all [Cell.ok]
theorem val_int {k : IntKind} (ht : P.underlying t = some (.int k)) (h : Value.okWide P W r b t v) : ∃ n, v = .int k n ∧ (Lit.int k n).wf = true := by
  simp only [Value.okWide, ht] at h; exact cell_int ht h
theorem val_bool (ht : P.underlying t = some .bool) (h : Value.okWide P W r b t v) : ∃ n, v = .bool n := by
  simp only [Value.okWide, ht] at h; exact cell_bool ht h
theorem val_u64 (ht : P.underlying t = some (.int .u64)) (h : Value.okWide P W r b t v) : ∃ x, v = .int .u64 (u x) := by
  obtain ⟨n, rfl, hn⟩ := val_int ht h; obtain ⟨x, rfl⟩ := u_of hn; exact ⟨x, rfl⟩
theorem val_i64 (ht : P.underlying t = some (.int .i64)) (h : Value.okWide P W r b t v) : ∃ x, v = .int .i64 (s x) := by
  obtain ⟨n, rfl, hn⟩ := val_int ht h; obtain ⟨x, rfl⟩ := s_of hn; exact ⟨x, rfl⟩
theorem cell_u64 (ht : P.underlying t = some (.int .u64)) (h : Cell.okWide P W r b t v) : ∃ x, v = .int .u64 (u x) := by
  obtain ⟨n, rfl, hn⟩ := cell_int ht h; obtain ⟨x, rfl⟩ := u_of hn; exact ⟨x, rfl⟩
theorem cell_i64 (ht : P.underlying t = some (.int .i64)) (h : Cell.okWide P W r b t v) : ∃ x, v = .int .i64 (s x) := by
  obtain ⟨n, rfl, hn⟩ := cell_int ht h; obtain ⟨x, rfl⟩ := s_of hn; exact ⟨x, rfl⟩
/-- The cells of an array or a struct, each with its type. -/
theorem val_cells {ts : List TypeId} {n : Nat} (hs : (∃ fs, P.underlying t = some (.struct fs)) ∨ (∃ k e, P.underlying t = some (.array k e)))
    (hc : P.cellsOf t = n) (hts : P.cellTypes P.depth t = some ts) (h : Value.okWide P W r b t v) :
    ∃ cs, v = .agg cs ∧ cs.size = n ∧ ∀ i v, cs[i]? = some v → ∃ e, ts[i % ts.length]? = some e ∧ Cell.okWide P W r b e v := by
  have key : ∃ cs, v = .agg cs ∧ cs.size = P.cellsOf t ∧ Row.okWide P W r b t cs := by
    unfold Value.okWide at h
    rcases hs with ⟨fs, hs⟩ | ⟨k, e, hs⟩ <;> (rw [hs] at h; exact h)
  obtain ⟨cs, hv, hsz, ts', h1, _, h3⟩ := key
  rw [hts] at h1; cases h1
  exact ⟨cs, hv, hsz.trans hc, h3⟩
theorem arr2 {α : Type} {cs : Array α} (h : cs.size = 2) : ∃ c0 c1, cs = #[c0, c1] := by
  obtain ⟨l⟩ := cs; match l, h with | [c0, c1], _ => exact ⟨c0, c1, rfl⟩
theorem arr3 {α : Type} {cs : Array α} (h : cs.size = 3) : ∃ c0 c1 c2, cs = #[c0, c1, c2] := by
  obtain ⟨l⟩ := cs; match l, h with | [c0, c1, c2], _ => exact ⟨c0, c1, c2, rfl⟩
theorem arr4 {α : Type} {cs : Array α} (h : cs.size = 4) : ∃ c0 c1 c2 c3, cs = #[c0, c1, c2, c3] := by
  obtain ⟨l⟩ := cs; match l, h with | [c0, c1, c2, c3], _ => exact ⟨c0, c1, c2, c3, rfl⟩
theorem arr5 {α : Type} {cs : Array α} (h : cs.size = 5) : ∃ c0 c1 c2 c3 c4, cs = #[c0, c1, c2, c3, c4] := by
  obtain ⟨l⟩ := cs; match l, h with | [c0, c1, c2, c3, c4], _ => exact ⟨c0, c1, c2, c3, c4, rfl⟩
theorem arr13 {α : Type} {cs : Array α} (h : cs.size = 13) : ∃ c0 c1 c2 c3 c4 c5 c6 c7 c8 c9 c10 c11 c12, cs = #[c0, c1, c2, c3, c4, c5, c6, c7, c8, c9, c10, c11, c12] := by
  obtain ⟨l⟩ := cs; match l, h with | [c0, c1, c2, c3, c4, c5, c6, c7, c8, c9, c10, c11, c12], _ => exact ⟨c0, c1, c2, c3, c4, c5, c6, c7, c8, c9, c10, c11, c12, rfl⟩
/-- An array of numbers with a sign. -/
theorem val_arr2 (ht : P.underlying t = some (.array 2 3)) (hi : P.underlying 3 = some (.int .i64)) (hc : P.cellsOf t = 2) (hts : P.cellTypes P.depth t = some [3, 3]) (h : Value.okWide P W r b t v) :
    ∃ x0 x1, v = .agg #[.int .i64 (s x0), .int .i64 (s x1)] := by
  obtain ⟨cs, rfl, hsz, hall⟩ := val_cells (.inr ⟨_, _, ht⟩) hc hts h
  obtain ⟨c0, c1, rfl⟩ := arr2 hsz
  obtain ⟨e0, he0, ho0⟩ := hall 0 c0 rfl; cases he0
  obtain ⟨e1, he1, ho1⟩ := hall 1 c1 rfl; cases he1
  obtain ⟨x0, rfl⟩ := cell_i64 hi ho0
  obtain ⟨x1, rfl⟩ := cell_i64 hi ho1
  exact ⟨x0, x1, rfl⟩
theorem val_arr3 (ht : P.underlying t = some (.array 3 3)) (hi : P.underlying 3 = some (.int .i64)) (hc : P.cellsOf t = 3) (hts : P.cellTypes P.depth t = some [3, 3, 3]) (h : Value.okWide P W r b t v) :
    ∃ x0 x1 x2, v = .agg #[.int .i64 (s x0), .int .i64 (s x1), .int .i64 (s x2)] := by
  obtain ⟨cs, rfl, hsz, hall⟩ := val_cells (.inr ⟨_, _, ht⟩) hc hts h
  obtain ⟨c0, c1, c2, rfl⟩ := arr3 hsz
  obtain ⟨e0, he0, ho0⟩ := hall 0 c0 rfl; cases he0
  obtain ⟨e1, he1, ho1⟩ := hall 1 c1 rfl; cases he1
  obtain ⟨e2, he2, ho2⟩ := hall 2 c2 rfl; cases he2
  obtain ⟨x0, rfl⟩ := cell_i64 hi ho0
  obtain ⟨x1, rfl⟩ := cell_i64 hi ho1
  obtain ⟨x2, rfl⟩ := cell_i64 hi ho2
  exact ⟨x0, x1, x2, rfl⟩
theorem val_arr4 (ht : P.underlying t = some (.array 4 3)) (hi : P.underlying 3 = some (.int .i64)) (hc : P.cellsOf t = 4) (hts : P.cellTypes P.depth t = some [3, 3, 3, 3]) (h : Value.okWide P W r b t v) :
    ∃ x0 x1 x2 x3, v = .agg #[.int .i64 (s x0), .int .i64 (s x1), .int .i64 (s x2), .int .i64 (s x3)] := by
  obtain ⟨cs, rfl, hsz, hall⟩ := val_cells (.inr ⟨_, _, ht⟩) hc hts h
  obtain ⟨c0, c1, c2, c3, rfl⟩ := arr4 hsz
  obtain ⟨e0, he0, ho0⟩ := hall 0 c0 rfl; cases he0
  obtain ⟨e1, he1, ho1⟩ := hall 1 c1 rfl; cases he1
  obtain ⟨e2, he2, ho2⟩ := hall 2 c2 rfl; cases he2
  obtain ⟨e3, he3, ho3⟩ := hall 3 c3 rfl; cases he3
  obtain ⟨x0, rfl⟩ := cell_i64 hi ho0
  obtain ⟨x1, rfl⟩ := cell_i64 hi ho1
  obtain ⟨x2, rfl⟩ := cell_i64 hi ho2
  obtain ⟨x3, rfl⟩ := cell_i64 hi ho3
  exact ⟨x0, x1, x2, x3, rfl⟩
end Go.Proofs.Ytfhigpmpngfkbaa.Opens
