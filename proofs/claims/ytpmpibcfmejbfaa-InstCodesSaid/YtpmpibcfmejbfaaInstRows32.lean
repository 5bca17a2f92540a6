/- The reference's table of instructions: what its function answers. No condition. -/
import Derived.Test.YtpmpibcfmejbfaaInstOf
namespace Go.Proofs.Ytpmpibcfmejbfaa.Inst
open Go Go.RowKit Go.Proofs.Ytpmpibcfmejbfaa.Bits
attribute [local irreducible] Go.wpList
set_option linter.unusedVariables false
/-- The reference's table, cell by cell. -/
def rows32 : Array Value := #[.string ⟨#[108, 117, 105]⟩, .int .u8 85, .int .u32 55, .int .u32 0, .int .u32 0, .string ⟨#[97, 117, 105, 112, 99]⟩, .int .u8 85, .int .u32 23, .int .u32 0, .int .u32 0, .string ⟨#[106, 97, 108]⟩, .int .u8 74, .int .u32 111, .int .u32 0, .int .u32 0, .string ⟨#[106, 97, 108, 114]⟩, .int .u8 73, .int .u32 103, .int .u32 0, .int .u32 0, .string ⟨#[98, 101, 113]⟩, .int .u8 66, .int .u32 99, .int .u32 0, .int .u32 0, .string ⟨#[98, 110, 101]⟩, .int .u8 66, .int .u32 99, .int .u32 1, .int .u32 0, .string ⟨#[98, 108, 116]⟩, .int .u8 66, .int .u32 99, .int .u32 4, .int .u32 0, .string ⟨#[98, 103, 101]⟩, .int .u8 66, .int .u32 99, .int .u32 5, .int .u32 0, .string ⟨#[98, 108, 116, 117]⟩, .int .u8 66, .int .u32 99, .int .u32 6, .int .u32 0, .string ⟨#[98, 103, 101, 117]⟩, .int .u8 66, .int .u32 99, .int .u32 7, .int .u32 0, .string ⟨#[108, 98]⟩, .int .u8 73, .int .u32 3, .int .u32 0, .int .u32 0, .string ⟨#[108, 104]⟩, .int .u8 73, .int .u32 3, .int .u32 1, .int .u32 0, .string ⟨#[108, 119]⟩, .int .u8 73, .int .u32 3, .int .u32 2, .int .u32 0, .string ⟨#[108, 100]⟩, .int .u8 73, .int .u32 3, .int .u32 3, .int .u32 0, .string ⟨#[108, 98, 117]⟩, .int .u8 73, .int .u32 3, .int .u32 4, .int .u32 0, .string ⟨#[108, 104, 117]⟩, .int .u8 73, .int .u32 3, .int .u32 5, .int .u32 0, .string ⟨#[108, 119, 117]⟩, .int .u8 73, .int .u32 3, .int .u32 6, .int .u32 0, .string ⟨#[115, 98]⟩, .int .u8 83, .int .u32 35, .int .u32 0, .int .u32 0, .string ⟨#[115, 104]⟩, .int .u8 83, .int .u32 35, .int .u32 1, .int .u32 0, .string ⟨#[115, 119]⟩, .int .u8 83, .int .u32 35, .int .u32 2, .int .u32 0, .string ⟨#[115, 100]⟩, .int .u8 83, .int .u32 35, .int .u32 3, .int .u32 0, .string ⟨#[97, 100, 100, 105]⟩, .int .u8 73, .int .u32 19, .int .u32 0, .int .u32 0, .string ⟨#[115, 108, 116, 105]⟩, .int .u8 73, .int .u32 19, .int .u32 2, .int .u32 0, .string ⟨#[115, 108, 116, 105, 117]⟩, .int .u8 73, .int .u32 19, .int .u32 3, .int .u32 0, .string ⟨#[120, 111, 114, 105]⟩, .int .u8 73, .int .u32 19, .int .u32 4, .int .u32 0, .string ⟨#[111, 114, 105]⟩, .int .u8 73, .int .u32 19, .int .u32 6, .int .u32 0, .string ⟨#[97, 110, 100, 105]⟩, .int .u8 73, .int .u32 19, .int .u32 7, .int .u32 0, .string ⟨#[115, 108, 108, 105]⟩, .int .u8 72, .int .u32 19, .int .u32 1, .int .u32 0, .string ⟨#[115, 114, 108, 105]⟩, .int .u8 72, .int .u32 19, .int .u32 5, .int .u32 0, .string ⟨#[115, 114, 97, 105]⟩, .int .u8 72, .int .u32 19, .int .u32 5, .int .u32 16, .string ⟨#[97, 100, 100]⟩, .int .u8 82, .int .u32 51, .int .u32 0, .int .u32 0, .string ⟨#[115, 117, 98]⟩, .int .u8 82, .int .u32 51, .int .u32 0, .int .u32 32, .string ⟨#[115, 108, 108]⟩, .int .u8 82, .int .u32 51, .int .u32 1, .int .u32 0, .string ⟨#[115, 108, 116]⟩, .int .u8 82, .int .u32 51, .int .u32 2, .int .u32 0, .string ⟨#[115, 108, 116, 117]⟩, .int .u8 82, .int .u32 51, .int .u32 3, .int .u32 0, .string ⟨#[120, 111, 114]⟩, .int .u8 82, .int .u32 51, .int .u32 4, .int .u32 0, .string ⟨#[115, 114, 108]⟩, .int .u8 82, .int .u32 51, .int .u32 5, .int .u32 0, .string ⟨#[115, 114, 97]⟩, .int .u8 82, .int .u32 51, .int .u32 5, .int .u32 32, .string ⟨#[111, 114]⟩, .int .u8 82, .int .u32 51, .int .u32 6, .int .u32 0, .string ⟨#[97, 110, 100]⟩, .int .u8 82, .int .u32 51, .int .u32 7, .int .u32 0, .string ⟨#[101, 99, 97, 108, 108]⟩, .int .u8 78, .int .u32 115, .int .u32 0, .int .u32 0, .string ⟨#[101, 98, 114, 101, 97, 107]⟩, .int .u8 78, .int .u32 115, .int .u32 0, .int .u32 1, .string ⟨#[99, 108, 99]⟩, .int .u8 73, .int .u32 15, .int .u32 2, .int .u32 0, .string ⟨#[99, 115, 99]⟩, .int .u8 83, .int .u32 35, .int .u32 4, .int .u32 0, .string ⟨#[99, 115, 101, 116, 98, 111, 117, 110, 100, 115]⟩, .int .u8 82, .int .u32 91, .int .u32 0, .int .u32 8, .string ⟨#[99, 115, 101, 116, 98, 111, 117, 110, 100, 115, 101, 120, 97, 99, 116]⟩, .int .u8 82, .int .u32 91, .int .u32 0, .int .u32 9, .string ⟨#[99, 115, 101, 97, 108]⟩, .int .u8 82, .int .u32 91, .int .u32 0, .int .u32 11, .string ⟨#[99, 117, 110, 115, 101, 97, 108]⟩, .int .u8 82, .int .u32 91, .int .u32 0, .int .u32 12, .string ⟨#[99, 97, 110, 100, 112, 101, 114, 109]⟩, .int .u8 82, .int .u32 91, .int .u32 0, .int .u32 13, .string ⟨#[99, 115, 101, 116, 97, 100, 100, 114]⟩, .int .u8 82, .int .u32 91, .int .u32 0, .int .u32 16, .string ⟨#[99, 105, 110, 99, 111, 102, 102, 115, 101, 116]⟩, .int .u8 82, .int .u32 91, .int .u32 0, .int .u32 17, .string ⟨#[99, 115, 117, 98]⟩, .int .u8 82, .int .u32 91, .int .u32 0, .int .u32 20, .string ⟨#[99, 98, 117, 105, 108, 100, 99, 97, 112]⟩, .int .u8 82, .int .u32 91, .int .u32 0, .int .u32 29, .string ⟨#[99, 116, 101, 115, 116, 115, 117, 98, 115, 101, 116]⟩, .int .u8 82, .int .u32 91, .int .u32 0, .int .u32 32, .string ⟨#[99, 115, 101, 116, 101, 113, 117, 97, 108]⟩, .int .u8 82, .int .u32 91, .int .u32 0, .int .u32 33, .string ⟨#[99, 103, 101, 116, 112, 101, 114, 109]⟩, .int .u8 71, .int .u32 91, .int .u32 0, .int .u32 0, .string ⟨#[99, 103, 101, 116, 116, 121, 112, 101]⟩, .int .u8 71, .int .u32 91, .int .u32 0, .int .u32 1, .string ⟨#[99, 103, 101, 116, 98, 97, 115, 101]⟩, .int .u8 71, .int .u32 91, .int .u32 0, .int .u32 2, .string ⟨#[99, 103, 101, 116, 108, 101, 110]⟩, .int .u8 71, .int .u32 91, .int .u32 0, .int .u32 3, .string ⟨#[99, 103, 101, 116, 116, 97, 103]⟩, .int .u8 71, .int .u32 91, .int .u32 0, .int .u32 4, .string ⟨#[99, 103, 101, 116, 111, 102, 102, 115, 101, 116]⟩, .int .u8 71, .int .u32 91, .int .u32 0, .int .u32 6, .string ⟨#[99, 114, 114, 108]⟩, .int .u8 71, .int .u32 91, .int .u32 0, .int .u32 8, .string ⟨#[99, 114, 97, 109]⟩, .int .u8 71, .int .u32 91, .int .u32 0, .int .u32 9, .string ⟨#[99, 109, 111, 118, 101]⟩, .int .u8 71, .int .u32 91, .int .u32 0, .int .u32 10, .string ⟨#[99, 99, 108, 101, 97, 114, 116, 97, 103]⟩, .int .u8 71, .int .u32 91, .int .u32 0, .int .u32 11, .string ⟨#[99, 103, 101, 116, 97, 100, 100, 114]⟩, .int .u8 71, .int .u32 91, .int .u32 0, .int .u32 15, .string ⟨#[99, 115, 101, 97, 108, 101, 110, 116, 114, 121]⟩, .int .u8 71, .int .u32 91, .int .u32 0, .int .u32 17, .string ⟨#[99, 105, 110, 99, 111, 102, 102, 115, 101, 116, 105, 109, 109]⟩, .int .u8 73, .int .u32 91, .int .u32 1, .int .u32 0, .string ⟨#[99, 115, 101, 116, 98, 111, 117, 110, 100, 115, 105, 109, 109]⟩, .int .u8 67, .int .u32 91, .int .u32 2, .int .u32 0]
set_option maxRecDepth 100000 in
theorem rows32_c (W : World) : Calls Try.prog 49 #[] W fun e W' => ∃ B : Nat, e = .returned (.slice (some ⟨B, 0, none⟩) 69 69) ∧ Kw.Mem [] W W' [(B, rows32, 79)] := by
  refine calls_of_wp Try.func49 rfl ?_
  have M0 : Kw.Mem [] W W [] := Kw.Mem.start _ _
  refine Kw.to (b := ⟨#[undef, undef, undef, undef, undef, undef, undef, undef, undef, undef, undef, undef, undef, undef, undef, undef, undef, undef, undef, undef, undef, undef, undef, undef, undef, undef, undef, undef, undef, undef, undef, undef, undef, undef, undef, undef, undef, undef, undef, undef, undef, undef, undef, undef, undef, undef, undef, undef, undef, undef, undef, undef, undef, undef, undef, undef, undef, undef, undef, undef, undef, undef, undef, undef, undef, undef, undef, undef, undef, undef, undef], []⟩) (by kernel_rfl) ?_
  refine wp_seq ?_
  refine Kw.region ?_
  refine Kw.pure (.slice none 0 0) (by kernel_rfl) (by kernel_rfl) ?_
  refine Kw.fin ?_
  refine Kw.then_normal ?_
  refine wp_seq ?_
  refine Kw.region ?_
  refine Kw.pure (.agg #[.string { data := #[108, 117, 105] }, .int .u8 85, .int .u32 55, .int .u32 0, .int .u32 0]) (by kernel_rfl) (by kernel_rfl) ?_
  refine Kw.pure (.agg #[.string { data := #[97, 117, 105, 112, 99] }, .int .u8 85, .int .u32 23, .int .u32 0, .int .u32 0]) (by kernel_rfl) (by kernel_rfl) ?_
  refine Kw.pure (.agg #[.string { data := #[106, 97, 108] }, .int .u8 74, .int .u32 111, .int .u32 0, .int .u32 0]) (by kernel_rfl) (by kernel_rfl) ?_
  refine Kw.pure (.agg #[.string { data := #[106, 97, 108, 114] }, .int .u8 73, .int .u32 103, .int .u32 0, .int .u32 0]) (by kernel_rfl) (by kernel_rfl) ?_
  refine Kw.pure (.agg #[.string { data := #[98, 101, 113] }, .int .u8 66, .int .u32 99, .int .u32 0, .int .u32 0]) (by kernel_rfl) (by kernel_rfl) ?_
  refine Kw.pure (.agg #[.string { data := #[98, 110, 101] }, .int .u8 66, .int .u32 99, .int .u32 1, .int .u32 0]) (by kernel_rfl) (by kernel_rfl) ?_
  refine Kw.pure (.agg #[.string { data := #[98, 108, 116] }, .int .u8 66, .int .u32 99, .int .u32 4, .int .u32 0]) (by kernel_rfl) (by kernel_rfl) ?_
  refine Kw.pure (.agg #[.string { data := #[98, 103, 101] }, .int .u8 66, .int .u32 99, .int .u32 5, .int .u32 0]) (by kernel_rfl) (by kernel_rfl) ?_
  refine Kw.pure (.agg #[.string { data := #[98, 108, 116, 117] }, .int .u8 66, .int .u32 99, .int .u32 6, .int .u32 0]) (by kernel_rfl) (by kernel_rfl) ?_
  refine Kw.pure (.agg #[.string { data := #[98, 103, 101, 117] }, .int .u8 66, .int .u32 99, .int .u32 7, .int .u32 0]) (by kernel_rfl) (by kernel_rfl) ?_
  refine Kw.pure (.agg #[.string { data := #[108, 98] }, .int .u8 73, .int .u32 3, .int .u32 0, .int .u32 0]) (by kernel_rfl) (by kernel_rfl) ?_
  refine Kw.pure (.agg #[.string { data := #[108, 104] }, .int .u8 73, .int .u32 3, .int .u32 1, .int .u32 0]) (by kernel_rfl) (by kernel_rfl) ?_
  refine Kw.pure (.agg #[.string { data := #[108, 119] }, .int .u8 73, .int .u32 3, .int .u32 2, .int .u32 0]) (by kernel_rfl) (by kernel_rfl) ?_
  refine Kw.pure (.agg #[.string { data := #[108, 100] }, .int .u8 73, .int .u32 3, .int .u32 3, .int .u32 0]) (by kernel_rfl) (by kernel_rfl) ?_
  refine Kw.pure (.agg #[.string { data := #[108, 98, 117] }, .int .u8 73, .int .u32 3, .int .u32 4, .int .u32 0]) (by kernel_rfl) (by kernel_rfl) ?_
  refine Kw.pure (.agg #[.string { data := #[108, 104, 117] }, .int .u8 73, .int .u32 3, .int .u32 5, .int .u32 0]) (by kernel_rfl) (by kernel_rfl) ?_
  refine Kw.pure (.agg #[.string { data := #[108, 119, 117] }, .int .u8 73, .int .u32 3, .int .u32 6, .int .u32 0]) (by kernel_rfl) (by kernel_rfl) ?_
  refine Kw.pure (.agg #[.string { data := #[115, 98] }, .int .u8 83, .int .u32 35, .int .u32 0, .int .u32 0]) (by kernel_rfl) (by kernel_rfl) ?_
  refine Kw.pure (.agg #[.string { data := #[115, 104] }, .int .u8 83, .int .u32 35, .int .u32 1, .int .u32 0]) (by kernel_rfl) (by kernel_rfl) ?_
  refine Kw.pure (.agg #[.string { data := #[115, 119] }, .int .u8 83, .int .u32 35, .int .u32 2, .int .u32 0]) (by kernel_rfl) (by kernel_rfl) ?_
  refine Kw.pure (.agg #[.string { data := #[115, 100] }, .int .u8 83, .int .u32 35, .int .u32 3, .int .u32 0]) (by kernel_rfl) (by kernel_rfl) ?_
  refine Kw.pure (.agg #[.string { data := #[97, 100, 100, 105] }, .int .u8 73, .int .u32 19, .int .u32 0, .int .u32 0]) (by kernel_rfl) (by kernel_rfl) ?_
  refine Kw.pure (.agg #[.string { data := #[115, 108, 116, 105] }, .int .u8 73, .int .u32 19, .int .u32 2, .int .u32 0]) (by kernel_rfl) (by kernel_rfl) ?_
  refine Kw.pure (.agg #[.string { data := #[115, 108, 116, 105, 117] }, .int .u8 73, .int .u32 19, .int .u32 3, .int .u32 0]) (by kernel_rfl) (by kernel_rfl) ?_
  refine Kw.pure (.agg #[.string { data := #[120, 111, 114, 105] }, .int .u8 73, .int .u32 19, .int .u32 4, .int .u32 0]) (by kernel_rfl) (by kernel_rfl) ?_
  refine Kw.pure (.agg #[.string { data := #[111, 114, 105] }, .int .u8 73, .int .u32 19, .int .u32 6, .int .u32 0]) (by kernel_rfl) (by kernel_rfl) ?_
  refine Kw.pure (.agg #[.string { data := #[97, 110, 100, 105] }, .int .u8 73, .int .u32 19, .int .u32 7, .int .u32 0]) (by kernel_rfl) (by kernel_rfl) ?_
  refine Kw.pure (.agg #[.string { data := #[115, 108, 108, 105] }, .int .u8 72, .int .u32 19, .int .u32 1, .int .u32 0]) (by kernel_rfl) (by kernel_rfl) ?_
  refine Kw.pure (.agg #[.string { data := #[115, 114, 108, 105] }, .int .u8 72, .int .u32 19, .int .u32 5, .int .u32 0]) (by kernel_rfl) (by kernel_rfl) ?_
  refine Kw.pure (.agg #[.string { data := #[115, 114, 97, 105] }, .int .u8 72, .int .u32 19, .int .u32 5, .int .u32 16]) (by kernel_rfl) (by kernel_rfl) ?_
  refine Kw.pure (.agg #[.string { data := #[97, 100, 100] }, .int .u8 82, .int .u32 51, .int .u32 0, .int .u32 0]) (by kernel_rfl) (by kernel_rfl) ?_
  refine Kw.pure (.agg #[.string { data := #[115, 117, 98] }, .int .u8 82, .int .u32 51, .int .u32 0, .int .u32 32]) (by kernel_rfl) (by kernel_rfl) ?_
  refine Kw.pure (.agg #[.string { data := #[115, 108, 108] }, .int .u8 82, .int .u32 51, .int .u32 1, .int .u32 0]) (by kernel_rfl) (by kernel_rfl) ?_
  refine Kw.pure (.agg #[.string { data := #[115, 108, 116] }, .int .u8 82, .int .u32 51, .int .u32 2, .int .u32 0]) (by kernel_rfl) (by kernel_rfl) ?_
  refine Kw.pure (.agg #[.string { data := #[115, 108, 116, 117] }, .int .u8 82, .int .u32 51, .int .u32 3, .int .u32 0]) (by kernel_rfl) (by kernel_rfl) ?_
  refine Kw.pure (.agg #[.string { data := #[120, 111, 114] }, .int .u8 82, .int .u32 51, .int .u32 4, .int .u32 0]) (by kernel_rfl) (by kernel_rfl) ?_
  refine Kw.pure (.agg #[.string { data := #[115, 114, 108] }, .int .u8 82, .int .u32 51, .int .u32 5, .int .u32 0]) (by kernel_rfl) (by kernel_rfl) ?_
  refine Kw.pure (.agg #[.string { data := #[115, 114, 97] }, .int .u8 82, .int .u32 51, .int .u32 5, .int .u32 32]) (by kernel_rfl) (by kernel_rfl) ?_
  refine Kw.pure (.agg #[.string { data := #[111, 114] }, .int .u8 82, .int .u32 51, .int .u32 6, .int .u32 0]) (by kernel_rfl) (by kernel_rfl) ?_
  refine Kw.pure (.agg #[.string { data := #[97, 110, 100] }, .int .u8 82, .int .u32 51, .int .u32 7, .int .u32 0]) (by kernel_rfl) (by kernel_rfl) ?_
  refine Kw.pure (.agg #[.string { data := #[101, 99, 97, 108, 108] }, .int .u8 78, .int .u32 115, .int .u32 0, .int .u32 0]) (by kernel_rfl) (by kernel_rfl) ?_
  refine Kw.pure (.agg #[.string { data := #[101, 98, 114, 101, 97, 107] }, .int .u8 78, .int .u32 115, .int .u32 0, .int .u32 1]) (by kernel_rfl) (by kernel_rfl) ?_
  refine Kw.pure (.agg #[.string { data := #[99, 108, 99] }, .int .u8 73, .int .u32 15, .int .u32 2, .int .u32 0]) (by kernel_rfl) (by kernel_rfl) ?_
  refine Kw.pure (.agg #[.string { data := #[99, 115, 99] }, .int .u8 83, .int .u32 35, .int .u32 4, .int .u32 0]) (by kernel_rfl) (by kernel_rfl) ?_
  refine Kw.pure (.agg #[.string { data := #[99, 115, 101, 116, 98, 111, 117, 110, 100, 115] }, .int .u8 82, .int .u32 91, .int .u32 0, .int .u32 8]) (by kernel_rfl) (by kernel_rfl) ?_
  refine Kw.pure (.agg #[.string { data := #[99, 115, 101, 116, 98, 111, 117, 110, 100, 115, 101, 120, 97, 99, 116] }, .int .u8 82, .int .u32 91, .int .u32 0, .int .u32 9]) (by kernel_rfl) (by kernel_rfl) ?_
  refine Kw.pure (.agg #[.string { data := #[99, 115, 101, 97, 108] }, .int .u8 82, .int .u32 91, .int .u32 0, .int .u32 11]) (by kernel_rfl) (by kernel_rfl) ?_
  refine Kw.pure (.agg #[.string { data := #[99, 117, 110, 115, 101, 97, 108] }, .int .u8 82, .int .u32 91, .int .u32 0, .int .u32 12]) (by kernel_rfl) (by kernel_rfl) ?_
  refine Kw.pure (.agg #[.string { data := #[99, 97, 110, 100, 112, 101, 114, 109] }, .int .u8 82, .int .u32 91, .int .u32 0, .int .u32 13]) (by kernel_rfl) (by kernel_rfl) ?_
  refine Kw.pure (.agg #[.string { data := #[99, 115, 101, 116, 97, 100, 100, 114] }, .int .u8 82, .int .u32 91, .int .u32 0, .int .u32 16]) (by kernel_rfl) (by kernel_rfl) ?_
  refine Kw.pure (.agg #[.string { data := #[99, 105, 110, 99, 111, 102, 102, 115, 101, 116] }, .int .u8 82, .int .u32 91, .int .u32 0, .int .u32 17]) (by kernel_rfl) (by kernel_rfl) ?_
  refine Kw.pure (.agg #[.string { data := #[99, 115, 117, 98] }, .int .u8 82, .int .u32 91, .int .u32 0, .int .u32 20]) (by kernel_rfl) (by kernel_rfl) ?_
  refine Kw.pure (.agg #[.string { data := #[99, 98, 117, 105, 108, 100, 99, 97, 112] }, .int .u8 82, .int .u32 91, .int .u32 0, .int .u32 29]) (by kernel_rfl) (by kernel_rfl) ?_
  refine Kw.pure (.agg #[.string { data := #[99, 116, 101, 115, 116, 115, 117, 98, 115, 101, 116] }, .int .u8 82, .int .u32 91, .int .u32 0, .int .u32 32]) (by kernel_rfl) (by kernel_rfl) ?_
  refine Kw.pure (.agg #[.string { data := #[99, 115, 101, 116, 101, 113, 117, 97, 108] }, .int .u8 82, .int .u32 91, .int .u32 0, .int .u32 33]) (by kernel_rfl) (by kernel_rfl) ?_
  refine Kw.pure (.agg #[.string { data := #[99, 103, 101, 116, 112, 101, 114, 109] }, .int .u8 71, .int .u32 91, .int .u32 0, .int .u32 0]) (by kernel_rfl) (by kernel_rfl) ?_
  refine Kw.pure (.agg #[.string { data := #[99, 103, 101, 116, 116, 121, 112, 101] }, .int .u8 71, .int .u32 91, .int .u32 0, .int .u32 1]) (by kernel_rfl) (by kernel_rfl) ?_
  refine Kw.pure (.agg #[.string { data := #[99, 103, 101, 116, 98, 97, 115, 101] }, .int .u8 71, .int .u32 91, .int .u32 0, .int .u32 2]) (by kernel_rfl) (by kernel_rfl) ?_
  refine Kw.pure (.agg #[.string { data := #[99, 103, 101, 116, 108, 101, 110] }, .int .u8 71, .int .u32 91, .int .u32 0, .int .u32 3]) (by kernel_rfl) (by kernel_rfl) ?_
  refine Kw.pure (.agg #[.string { data := #[99, 103, 101, 116, 116, 97, 103] }, .int .u8 71, .int .u32 91, .int .u32 0, .int .u32 4]) (by kernel_rfl) (by kernel_rfl) ?_
  refine Kw.pure (.agg #[.string { data := #[99, 103, 101, 116, 111, 102, 102, 115, 101, 116] }, .int .u8 71, .int .u32 91, .int .u32 0, .int .u32 6]) (by kernel_rfl) (by kernel_rfl) ?_
  refine Kw.pure (.agg #[.string { data := #[99, 114, 114, 108] }, .int .u8 71, .int .u32 91, .int .u32 0, .int .u32 8]) (by kernel_rfl) (by kernel_rfl) ?_
  refine Kw.pure (.agg #[.string { data := #[99, 114, 97, 109] }, .int .u8 71, .int .u32 91, .int .u32 0, .int .u32 9]) (by kernel_rfl) (by kernel_rfl) ?_
  refine Kw.pure (.agg #[.string { data := #[99, 109, 111, 118, 101] }, .int .u8 71, .int .u32 91, .int .u32 0, .int .u32 10]) (by kernel_rfl) (by kernel_rfl) ?_
  refine Kw.pure (.agg #[.string { data := #[99, 99, 108, 101, 97, 114, 116, 97, 103] }, .int .u8 71, .int .u32 91, .int .u32 0, .int .u32 11]) (by kernel_rfl) (by kernel_rfl) ?_
  refine Kw.pure (.agg #[.string { data := #[99, 103, 101, 116, 97, 100, 100, 114] }, .int .u8 71, .int .u32 91, .int .u32 0, .int .u32 15]) (by kernel_rfl) (by kernel_rfl) ?_
  refine Kw.pure (.agg #[.string { data := #[99, 115, 101, 97, 108, 101, 110, 116, 114, 121] }, .int .u8 71, .int .u32 91, .int .u32 0, .int .u32 17]) (by kernel_rfl) (by kernel_rfl) ?_
  refine Kw.pure (.agg #[.string { data := #[99, 105, 110, 99, 111, 102, 102, 115, 101, 116, 105, 109, 109] }, .int .u8 73, .int .u32 91, .int .u32 1, .int .u32 0]) (by kernel_rfl) (by kernel_rfl) ?_
  refine Kw.pure (.agg #[.string { data := #[99, 115, 101, 116, 98, 111, 117, 110, 100, 115, 105, 109, 109] }, .int .u8 67, .int .u32 91, .int .u32 2, .int .u32 0]) (by kernel_rfl) (by kernel_rfl) ?_
  refine Kw.allocV (fun B => .slice (some ⟨B, 0, none⟩) 69 69) rows32 79 M0 (by kernel_rfl) (by kernel_rfl) fun w1 B1 M1 => ?_
  refine Kw.pure (.slice (some ⟨B1, 0, none⟩) 69 69) (by kernel_rfl) (by kernel_rfl) ?_
  refine Kw.fin ?_
  refine Kw.then_normal ?_
  refine wp_ret ?_
  exact bodyPost_ret (v := .slice (some ⟨B1, 0, none⟩) 69 69) (by kernel_rfl) (by kernel_rfl) ⟨_, rfl, M1⟩
def rowD (k : Nat) : Array Value := #[.string (nm k), .int .u8 (sh k), .int .u32 (u (cd k)), .int .u32 (u (ff k)), .int .u32 (u (ot k))]
theorem e32_0 : (rows32.extract (0 + 0 * 5) (0 + 0 * 5 + 5)).toList = (rowD 0).toList := by kernel_rfl
theorem e32_1 : (rows32.extract (0 + 1 * 5) (0 + 1 * 5 + 5)).toList = (rowD 1).toList := by kernel_rfl
theorem e32_2 : (rows32.extract (0 + 2 * 5) (0 + 2 * 5 + 5)).toList = (rowD 2).toList := by kernel_rfl
theorem e32_3 : (rows32.extract (0 + 3 * 5) (0 + 3 * 5 + 5)).toList = (rowD 3).toList := by kernel_rfl
theorem e32_4 : (rows32.extract (0 + 4 * 5) (0 + 4 * 5 + 5)).toList = (rowD 4).toList := by kernel_rfl
theorem e32_5 : (rows32.extract (0 + 5 * 5) (0 + 5 * 5 + 5)).toList = (rowD 5).toList := by kernel_rfl
theorem e32_6 : (rows32.extract (0 + 6 * 5) (0 + 6 * 5 + 5)).toList = (rowD 6).toList := by kernel_rfl
theorem e32_7 : (rows32.extract (0 + 7 * 5) (0 + 7 * 5 + 5)).toList = (rowD 7).toList := by kernel_rfl
theorem e32_8 : (rows32.extract (0 + 8 * 5) (0 + 8 * 5 + 5)).toList = (rowD 8).toList := by kernel_rfl
theorem e32_9 : (rows32.extract (0 + 9 * 5) (0 + 9 * 5 + 5)).toList = (rowD 9).toList := by kernel_rfl
theorem e32_10 : (rows32.extract (0 + 10 * 5) (0 + 10 * 5 + 5)).toList = (rowD 10).toList := by kernel_rfl
theorem e32_11 : (rows32.extract (0 + 11 * 5) (0 + 11 * 5 + 5)).toList = (rowD 11).toList := by kernel_rfl
theorem e32_12 : (rows32.extract (0 + 12 * 5) (0 + 12 * 5 + 5)).toList = (rowD 12).toList := by kernel_rfl
theorem e32_13 : (rows32.extract (0 + 13 * 5) (0 + 13 * 5 + 5)).toList = (rowD 13).toList := by kernel_rfl
theorem e32_14 : (rows32.extract (0 + 14 * 5) (0 + 14 * 5 + 5)).toList = (rowD 14).toList := by kernel_rfl
theorem e32_15 : (rows32.extract (0 + 15 * 5) (0 + 15 * 5 + 5)).toList = (rowD 15).toList := by kernel_rfl
theorem e32_16 : (rows32.extract (0 + 16 * 5) (0 + 16 * 5 + 5)).toList = (rowD 16).toList := by kernel_rfl
theorem e32_17 : (rows32.extract (0 + 17 * 5) (0 + 17 * 5 + 5)).toList = (rowD 17).toList := by kernel_rfl
theorem e32_18 : (rows32.extract (0 + 18 * 5) (0 + 18 * 5 + 5)).toList = (rowD 18).toList := by kernel_rfl
theorem e32_19 : (rows32.extract (0 + 19 * 5) (0 + 19 * 5 + 5)).toList = (rowD 19).toList := by kernel_rfl
theorem e32_20 : (rows32.extract (0 + 20 * 5) (0 + 20 * 5 + 5)).toList = (rowD 20).toList := by kernel_rfl
theorem e32_21 : (rows32.extract (0 + 21 * 5) (0 + 21 * 5 + 5)).toList = (rowD 21).toList := by kernel_rfl
theorem e32_22 : (rows32.extract (0 + 22 * 5) (0 + 22 * 5 + 5)).toList = (rowD 22).toList := by kernel_rfl
theorem e32_23 : (rows32.extract (0 + 23 * 5) (0 + 23 * 5 + 5)).toList = (rowD 23).toList := by kernel_rfl
theorem e32_24 : (rows32.extract (0 + 24 * 5) (0 + 24 * 5 + 5)).toList = (rowD 24).toList := by kernel_rfl
theorem e32_25 : (rows32.extract (0 + 25 * 5) (0 + 25 * 5 + 5)).toList = (rowD 25).toList := by kernel_rfl
theorem e32_26 : (rows32.extract (0 + 26 * 5) (0 + 26 * 5 + 5)).toList = (rowD 26).toList := by kernel_rfl
theorem e32_27 : (rows32.extract (0 + 27 * 5) (0 + 27 * 5 + 5)).toList = (rowD 27).toList := by kernel_rfl
theorem e32_28 : (rows32.extract (0 + 28 * 5) (0 + 28 * 5 + 5)).toList = (rowD 28).toList := by kernel_rfl
theorem e32_29 : (rows32.extract (0 + 29 * 5) (0 + 29 * 5 + 5)).toList = (rowD 29).toList := by kernel_rfl
theorem e32_30 : (rows32.extract (0 + 30 * 5) (0 + 30 * 5 + 5)).toList = (rowD 30).toList := by kernel_rfl
theorem e32_31 : (rows32.extract (0 + 31 * 5) (0 + 31 * 5 + 5)).toList = (rowD 31).toList := by kernel_rfl
theorem e32_32 : (rows32.extract (0 + 32 * 5) (0 + 32 * 5 + 5)).toList = (rowD 32).toList := by kernel_rfl
theorem e32_33 : (rows32.extract (0 + 33 * 5) (0 + 33 * 5 + 5)).toList = (rowD 33).toList := by kernel_rfl
theorem e32_34 : (rows32.extract (0 + 34 * 5) (0 + 34 * 5 + 5)).toList = (rowD 34).toList := by kernel_rfl
theorem e32_35 : (rows32.extract (0 + 35 * 5) (0 + 35 * 5 + 5)).toList = (rowD 35).toList := by kernel_rfl
theorem e32_36 : (rows32.extract (0 + 36 * 5) (0 + 36 * 5 + 5)).toList = (rowD 36).toList := by kernel_rfl
theorem e32_37 : (rows32.extract (0 + 37 * 5) (0 + 37 * 5 + 5)).toList = (rowD 37).toList := by kernel_rfl
theorem e32_38 : (rows32.extract (0 + 38 * 5) (0 + 38 * 5 + 5)).toList = (rowD 38).toList := by kernel_rfl
theorem e32_39 : (rows32.extract (0 + 39 * 5) (0 + 39 * 5 + 5)).toList = (rowD 39).toList := by kernel_rfl
theorem e32_40 : (rows32.extract (0 + 40 * 5) (0 + 40 * 5 + 5)).toList = (rowD 40).toList := by kernel_rfl
theorem e32_41 : (rows32.extract (0 + 41 * 5) (0 + 41 * 5 + 5)).toList = (rowD 41).toList := by kernel_rfl
theorem e32_42 : (rows32.extract (0 + 42 * 5) (0 + 42 * 5 + 5)).toList = (rowD 42).toList := by kernel_rfl
theorem e32_43 : (rows32.extract (0 + 43 * 5) (0 + 43 * 5 + 5)).toList = (rowD 43).toList := by kernel_rfl
theorem e32_44 : (rows32.extract (0 + 44 * 5) (0 + 44 * 5 + 5)).toList = (rowD 44).toList := by kernel_rfl
theorem e32_45 : (rows32.extract (0 + 45 * 5) (0 + 45 * 5 + 5)).toList = (rowD 45).toList := by kernel_rfl
theorem e32_46 : (rows32.extract (0 + 46 * 5) (0 + 46 * 5 + 5)).toList = (rowD 46).toList := by kernel_rfl
theorem e32_47 : (rows32.extract (0 + 47 * 5) (0 + 47 * 5 + 5)).toList = (rowD 47).toList := by kernel_rfl
theorem e32_48 : (rows32.extract (0 + 48 * 5) (0 + 48 * 5 + 5)).toList = (rowD 48).toList := by kernel_rfl
theorem e32_49 : (rows32.extract (0 + 49 * 5) (0 + 49 * 5 + 5)).toList = (rowD 49).toList := by kernel_rfl
theorem e32_50 : (rows32.extract (0 + 50 * 5) (0 + 50 * 5 + 5)).toList = (rowD 50).toList := by kernel_rfl
theorem e32_51 : (rows32.extract (0 + 51 * 5) (0 + 51 * 5 + 5)).toList = (rowD 51).toList := by kernel_rfl
theorem e32_52 : (rows32.extract (0 + 52 * 5) (0 + 52 * 5 + 5)).toList = (rowD 52).toList := by kernel_rfl
theorem e32_53 : (rows32.extract (0 + 53 * 5) (0 + 53 * 5 + 5)).toList = (rowD 53).toList := by kernel_rfl
theorem e32_54 : (rows32.extract (0 + 54 * 5) (0 + 54 * 5 + 5)).toList = (rowD 54).toList := by kernel_rfl
theorem e32_55 : (rows32.extract (0 + 55 * 5) (0 + 55 * 5 + 5)).toList = (rowD 55).toList := by kernel_rfl
theorem e32_56 : (rows32.extract (0 + 56 * 5) (0 + 56 * 5 + 5)).toList = (rowD 56).toList := by kernel_rfl
theorem e32_57 : (rows32.extract (0 + 57 * 5) (0 + 57 * 5 + 5)).toList = (rowD 57).toList := by kernel_rfl
theorem e32_58 : (rows32.extract (0 + 58 * 5) (0 + 58 * 5 + 5)).toList = (rowD 58).toList := by kernel_rfl
theorem e32_59 : (rows32.extract (0 + 59 * 5) (0 + 59 * 5 + 5)).toList = (rowD 59).toList := by kernel_rfl
theorem e32_60 : (rows32.extract (0 + 60 * 5) (0 + 60 * 5 + 5)).toList = (rowD 60).toList := by kernel_rfl
theorem e32_61 : (rows32.extract (0 + 61 * 5) (0 + 61 * 5 + 5)).toList = (rowD 61).toList := by kernel_rfl
theorem e32_62 : (rows32.extract (0 + 62 * 5) (0 + 62 * 5 + 5)).toList = (rowD 62).toList := by kernel_rfl
theorem e32_63 : (rows32.extract (0 + 63 * 5) (0 + 63 * 5 + 5)).toList = (rowD 63).toList := by kernel_rfl
theorem e32_64 : (rows32.extract (0 + 64 * 5) (0 + 64 * 5 + 5)).toList = (rowD 64).toList := by kernel_rfl
theorem e32_65 : (rows32.extract (0 + 65 * 5) (0 + 65 * 5 + 5)).toList = (rowD 65).toList := by kernel_rfl
theorem e32_66 : (rows32.extract (0 + 66 * 5) (0 + 66 * 5 + 5)).toList = (rowD 66).toList := by kernel_rfl
theorem e32_67 : (rows32.extract (0 + 67 * 5) (0 + 67 * 5 + 5)).toList = (rowD 67).toList := by kernel_rfl
theorem e32_68 : (rows32.extract (0 + 68 * 5) (0 + 68 * 5 + 5)).toList = (rowD 68).toList := by kernel_rfl
set_option maxRecDepth 100000 in
theorem ext32 (k : Nat) (hk : k < 69) : (rows32.extract (0 + k * 5) (0 + k * 5 + 5)).toList = (rowD k).toList := by
  match k, hk with
  | 0, _ => exact e32_0
  | 1, _ => exact e32_1
  | 2, _ => exact e32_2
  | 3, _ => exact e32_3
  | 4, _ => exact e32_4
  | 5, _ => exact e32_5
  | 6, _ => exact e32_6
  | 7, _ => exact e32_7
  | 8, _ => exact e32_8
  | 9, _ => exact e32_9
  | 10, _ => exact e32_10
  | 11, _ => exact e32_11
  | 12, _ => exact e32_12
  | 13, _ => exact e32_13
  | 14, _ => exact e32_14
  | 15, _ => exact e32_15
  | 16, _ => exact e32_16
  | 17, _ => exact e32_17
  | 18, _ => exact e32_18
  | 19, _ => exact e32_19
  | 20, _ => exact e32_20
  | 21, _ => exact e32_21
  | 22, _ => exact e32_22
  | 23, _ => exact e32_23
  | 24, _ => exact e32_24
  | 25, _ => exact e32_25
  | 26, _ => exact e32_26
  | 27, _ => exact e32_27
  | 28, _ => exact e32_28
  | 29, _ => exact e32_29
  | 30, _ => exact e32_30
  | 31, _ => exact e32_31
  | 32, _ => exact e32_32
  | 33, _ => exact e32_33
  | 34, _ => exact e32_34
  | 35, _ => exact e32_35
  | 36, _ => exact e32_36
  | 37, _ => exact e32_37
  | 38, _ => exact e32_38
  | 39, _ => exact e32_39
  | 40, _ => exact e32_40
  | 41, _ => exact e32_41
  | 42, _ => exact e32_42
  | 43, _ => exact e32_43
  | 44, _ => exact e32_44
  | 45, _ => exact e32_45
  | 46, _ => exact e32_46
  | 47, _ => exact e32_47
  | 48, _ => exact e32_48
  | 49, _ => exact e32_49
  | 50, _ => exact e32_50
  | 51, _ => exact e32_51
  | 52, _ => exact e32_52
  | 53, _ => exact e32_53
  | 54, _ => exact e32_54
  | 55, _ => exact e32_55
  | 56, _ => exact e32_56
  | 57, _ => exact e32_57
  | 58, _ => exact e32_58
  | 59, _ => exact e32_59
  | 60, _ => exact e32_60
  | 61, _ => exact e32_61
  | 62, _ => exact e32_62
  | 63, _ => exact e32_63
  | 64, _ => exact e32_64
  | 65, _ => exact e32_65
  | 66, _ => exact e32_66
  | 67, _ => exact e32_67
  | 68, _ => exact e32_68
  | n + 69, h => omega
theorem row32_s {c : Int} (k : Nat) (hk : k < 69) (hs : sh k = c) : (rows32.extract (0 + k * 5) (0 + k * 5 + 5)).toList = [.string (nm k), .int .u8 c, .int .u32 (u (cd k)), .int .u32 (u (ff k)), .int .u32 (u (ot k))] := by
  rw [ext32 k hk, ← hs]; rfl
end Go.Proofs.Ytpmpibcfmejbfaa.Inst
