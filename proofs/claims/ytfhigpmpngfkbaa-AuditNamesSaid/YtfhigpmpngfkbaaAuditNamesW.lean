/- Any faults have the document's lines, and any kind its name: the statement's function answers true. No condition but that the arguments are of their types. -/
import Derived.Test.YtfhigpmpngfkbaaAudS
import Derived.Test.YtfhigpmpngfkbaaKSlices
namespace Go.Proofs.Ytfhigpmpngfkbaa.AuditNamesW
open Go Go.RowKit Go.Proofs.Ytfhigpmpngfkbaa.Bits Go.Proofs.Ytfhigpmpngfkbaa.Aud Go.Proofs.Ytfhigpmpngfkbaa.Opens
theorem walk (W : World) (base : Nat) (v0 v1 : Value) (o0 : Value.okWide Try.prog W .any base 55 v0) (t0 : Readable Try.prog W 55 v0) (o1 : Value.okWide Try.prog W .any base 3 v1) :
    Calls Try.prog 12 #[v0, v1] W fun e W' => e = .returned (.bool true) ∧ Below W.heap.size W W' := by
  have flat : Flat Try.prog 62 [.i64, .i64, .u64] := by
    refine ⟨by kernel_rfl, .inr ⟨_, Try.underlying62, fun j k hk => ?_⟩⟩
    match j, hk with
    | 0, hk => cases hk; exact ⟨_, rfl, rfl, Try.underlying3, by kernel_rfl⟩
    | 1, hk => cases hk; exact ⟨_, rfl, rfl, Try.underlying3, by kernel_rfl⟩
    | 2, hk => cases hk; exact ⟨_, rfl, rfl, Try.underlying22, by kernel_rfl⟩
    | j + 3, hk => simp at hk
  obtain ⟨A, n, cap, rfl, hn, hcap, z, hz, hc⟩ := open_cells Try.underlying55 flat (by decide) o0 t0
  obtain ⟨k, rfl, -⟩ := val_int Try.underlying3 o1
  have all : Calls Try.prog 12 #[.slice A n cap, .int .i64 k] W fun e W' => e = .returned (.bool true) ∧ K2.Mem [] W W' [] := by
    rcases Nat.eq_zero_or_pos n with rfl | hpos
    · exact names_none A cap k W
    · obtain ⟨b, off, rfl, hb, hcell⟩ := hc hpos
      have hA : At W b off ((List.range n).map fun i => ((BitVec.ofInt 64 (z i 0), BitVec.ofInt 64 (z i 1), BitVec.ofInt 64 (z i 2)) : F3)) := by
        refine ⟨hb, fun i f hf j v hv => ?_⟩
        rw [List.getElem?_map] at hf
        have hi : i < n := by
          rcases Nat.lt_or_ge i n with h | h
          · exact h
          · rw [List.getElem?_eq_none (by simpa using h)] at hf; cases hf
        rw [List.getElem?_range hi] at hf
        cases hf
        have e0 : s (BitVec.ofInt 64 (z i 0)) = z i 0 := by obtain ⟨y, hy⟩ := s_of (hz i 0 .i64 hi rfl); rw [hy, ofInt_s]
        have e1 : s (BitVec.ofInt 64 (z i 1)) = z i 1 := by obtain ⟨y, hy⟩ := s_of (hz i 1 .i64 hi rfl); rw [hy, ofInt_s]
        have e2 : u (BitVec.ofInt 64 (z i 2)) = z i 2 := by obtain ⟨y, hy⟩ := u_of (hz i 2 .u64 hi rfl); rw [hy, ofInt_u]
        rw [Nat.add_assoc]
        match j, hv with
        | 0, hv => cases hv; rw [e0]; exact hcell i 0 hi (by decide)
        | 1, hv => cases hv; rw [e1]; exact hcell i 1 hi (by decide)
        | 2, hv => cases hv; rw [e2]; exact hcell i 2 hi (by decide)
        | j + 3, hv => simp [rowF] at hv
      by_cases h : n ≤ 100
      · exact names_in b off n cap _ k W hA (by simp) h hpos
      · exact names_big b off n cap _ k W hA (by simp) (by omega) hn
  exact all.mono fun e W' ⟨he, hd⟩ => ⟨he, K2.mem_below hd⟩
end Go.Proofs.Ytfhigpmpngfkbaa.AuditNamesW
