/- The table's line of an instruction's number: what the program's function answers. No condition. -/
import Derived.Test.YtpmpibcfmejbfaaInstRows
import Derived.IntWalk
import Derived.Test.YtpmpibcfmejbfaaKBits
import Derived.Test.YtpmpibcfmejbfaaKS
namespace Go.Proofs.Ytpmpibcfmejbfaa.Inst
open Go Go.RowKit Go.Proofs.Ytpmpibcfmejbfaa.Bits
def nm (k : Nat) : ByteArray := ([⟨#[108, 117, 105]⟩, ⟨#[97, 117, 105, 112, 99]⟩, ⟨#[106, 97, 108]⟩, ⟨#[106, 97, 108, 114]⟩, ⟨#[98, 101, 113]⟩, ⟨#[98, 110, 101]⟩, ⟨#[98, 108, 116]⟩, ⟨#[98, 103, 101]⟩, ⟨#[98, 108, 116, 117]⟩, ⟨#[98, 103, 101, 117]⟩, ⟨#[108, 98]⟩, ⟨#[108, 104]⟩, ⟨#[108, 119]⟩, ⟨#[108, 100]⟩, ⟨#[108, 98, 117]⟩, ⟨#[108, 104, 117]⟩, ⟨#[108, 119, 117]⟩, ⟨#[115, 98]⟩, ⟨#[115, 104]⟩, ⟨#[115, 119]⟩, ⟨#[115, 100]⟩, ⟨#[97, 100, 100, 105]⟩, ⟨#[115, 108, 116, 105]⟩, ⟨#[115, 108, 116, 105, 117]⟩, ⟨#[120, 111, 114, 105]⟩, ⟨#[111, 114, 105]⟩, ⟨#[97, 110, 100, 105]⟩, ⟨#[115, 108, 108, 105]⟩, ⟨#[115, 114, 108, 105]⟩, ⟨#[115, 114, 97, 105]⟩, ⟨#[97, 100, 100]⟩, ⟨#[115, 117, 98]⟩, ⟨#[115, 108, 108]⟩, ⟨#[115, 108, 116]⟩, ⟨#[115, 108, 116, 117]⟩, ⟨#[120, 111, 114]⟩, ⟨#[115, 114, 108]⟩, ⟨#[115, 114, 97]⟩, ⟨#[111, 114]⟩, ⟨#[97, 110, 100]⟩, ⟨#[101, 99, 97, 108, 108]⟩, ⟨#[101, 98, 114, 101, 97, 107]⟩, ⟨#[99, 108, 99]⟩, ⟨#[99, 115, 99]⟩, ⟨#[99, 115, 101, 116, 98, 111, 117, 110, 100, 115]⟩, ⟨#[99, 115, 101, 116, 98, 111, 117, 110, 100, 115, 101, 120, 97, 99, 116]⟩, ⟨#[99, 115, 101, 97, 108]⟩, ⟨#[99, 117, 110, 115, 101, 97, 108]⟩, ⟨#[99, 97, 110, 100, 112, 101, 114, 109]⟩, ⟨#[99, 115, 101, 116, 97, 100, 100, 114]⟩, ⟨#[99, 105, 110, 99, 111, 102, 102, 115, 101, 116]⟩, ⟨#[99, 115, 117, 98]⟩, ⟨#[99, 98, 117, 105, 108, 100, 99, 97, 112]⟩, ⟨#[99, 116, 101, 115, 116, 115, 117, 98, 115, 101, 116]⟩, ⟨#[99, 115, 101, 116, 101, 113, 117, 97, 108]⟩, ⟨#[99, 103, 101, 116, 112, 101, 114, 109]⟩, ⟨#[99, 103, 101, 116, 116, 121, 112, 101]⟩, ⟨#[99, 103, 101, 116, 98, 97, 115, 101]⟩, ⟨#[99, 103, 101, 116, 108, 101, 110]⟩, ⟨#[99, 103, 101, 116, 116, 97, 103]⟩, ⟨#[99, 103, 101, 116, 111, 102, 102, 115, 101, 116]⟩, ⟨#[99, 114, 114, 108]⟩, ⟨#[99, 114, 97, 109]⟩, ⟨#[99, 109, 111, 118, 101]⟩, ⟨#[99, 99, 108, 101, 97, 114, 116, 97, 103]⟩, ⟨#[99, 103, 101, 116, 97, 100, 100, 114]⟩, ⟨#[99, 115, 101, 97, 108, 101, 110, 116, 114, 121]⟩, ⟨#[99, 105, 110, 99, 111, 102, 102, 115, 101, 116, 105, 109, 109]⟩, ⟨#[99, 115, 101, 116, 98, 111, 117, 110, 100, 115, 105, 109, 109]⟩] : List (ByteArray)).getD k ⟨#[]⟩
def sh (k : Nat) : Int := ([85, 85, 74, 73, 66, 66, 66, 66, 66, 66, 73, 73, 73, 73, 73, 73, 73, 83, 83, 83, 83, 73, 73, 73, 73, 73, 73, 72, 72, 72, 82, 82, 82, 82, 82, 82, 82, 82, 82, 82, 78, 78, 73, 83, 82, 82, 82, 82, 82, 82, 82, 82, 82, 82, 82, 71, 71, 71, 71, 71, 71, 71, 71, 71, 71, 71, 71, 73, 67] : List (Int)).getD k 0
def cd (k : Nat) : BitVec 64 := ([55#64, 23#64, 111#64, 103#64, 99#64, 99#64, 99#64, 99#64, 99#64, 99#64, 3#64, 3#64, 3#64, 3#64, 3#64, 3#64, 3#64, 35#64, 35#64, 35#64, 35#64, 19#64, 19#64, 19#64, 19#64, 19#64, 19#64, 19#64, 19#64, 19#64, 51#64, 51#64, 51#64, 51#64, 51#64, 51#64, 51#64, 51#64, 51#64, 51#64, 115#64, 115#64, 15#64, 35#64, 91#64, 91#64, 91#64, 91#64, 91#64, 91#64, 91#64, 91#64, 91#64, 91#64, 91#64, 91#64, 91#64, 91#64, 91#64, 91#64, 91#64, 91#64, 91#64, 91#64, 91#64, 91#64, 91#64, 91#64, 91#64] : List (BitVec 64)).getD k 0#64
def ff (k : Nat) : BitVec 64 := ([0#64, 0#64, 0#64, 0#64, 0#64, 1#64, 4#64, 5#64, 6#64, 7#64, 0#64, 1#64, 2#64, 3#64, 4#64, 5#64, 6#64, 0#64, 1#64, 2#64, 3#64, 0#64, 2#64, 3#64, 4#64, 6#64, 7#64, 1#64, 5#64, 5#64, 0#64, 0#64, 1#64, 2#64, 3#64, 4#64, 5#64, 5#64, 6#64, 7#64, 0#64, 0#64, 2#64, 4#64, 0#64, 0#64, 0#64, 0#64, 0#64, 0#64, 0#64, 0#64, 0#64, 0#64, 0#64, 0#64, 0#64, 0#64, 0#64, 0#64, 0#64, 0#64, 0#64, 0#64, 0#64, 0#64, 0#64, 1#64, 2#64] : List (BitVec 64)).getD k 0#64
def ot (k : Nat) : BitVec 64 := ([0#64, 0#64, 0#64, 0#64, 0#64, 0#64, 0#64, 0#64, 0#64, 0#64, 0#64, 0#64, 0#64, 0#64, 0#64, 0#64, 0#64, 0#64, 0#64, 0#64, 0#64, 0#64, 0#64, 0#64, 0#64, 0#64, 0#64, 0#64, 0#64, 16#64, 0#64, 32#64, 0#64, 0#64, 0#64, 0#64, 0#64, 32#64, 0#64, 0#64, 0#64, 1#64, 0#64, 0#64, 8#64, 9#64, 11#64, 12#64, 13#64, 16#64, 17#64, 20#64, 29#64, 32#64, 33#64, 0#64, 1#64, 2#64, 3#64, 4#64, 6#64, 8#64, 9#64, 10#64, 11#64, 15#64, 17#64, 0#64, 0#64] : List (BitVec 64)).getD k 0#64

def rowC (k : Nat) : Array Value := #[.string (nm k), .int .u8 (sh k), .int .u64 (u (cd k)), .int .u64 (u (ff k)), .int .u64 (u (ot k))]
theorem ext_0 : rowsCells.extract (0 * 5) (0 * 5 + 5) = rowC 0 := by kernel_rfl
theorem ext_1 : rowsCells.extract (1 * 5) (1 * 5 + 5) = rowC 1 := by kernel_rfl
theorem ext_2 : rowsCells.extract (2 * 5) (2 * 5 + 5) = rowC 2 := by kernel_rfl
theorem ext_3 : rowsCells.extract (3 * 5) (3 * 5 + 5) = rowC 3 := by kernel_rfl
theorem ext_4 : rowsCells.extract (4 * 5) (4 * 5 + 5) = rowC 4 := by kernel_rfl
theorem ext_5 : rowsCells.extract (5 * 5) (5 * 5 + 5) = rowC 5 := by kernel_rfl
theorem ext_6 : rowsCells.extract (6 * 5) (6 * 5 + 5) = rowC 6 := by kernel_rfl
theorem ext_7 : rowsCells.extract (7 * 5) (7 * 5 + 5) = rowC 7 := by kernel_rfl
theorem ext_8 : rowsCells.extract (8 * 5) (8 * 5 + 5) = rowC 8 := by kernel_rfl
theorem ext_9 : rowsCells.extract (9 * 5) (9 * 5 + 5) = rowC 9 := by kernel_rfl
theorem ext_10 : rowsCells.extract (10 * 5) (10 * 5 + 5) = rowC 10 := by kernel_rfl
theorem ext_11 : rowsCells.extract (11 * 5) (11 * 5 + 5) = rowC 11 := by kernel_rfl
theorem ext_12 : rowsCells.extract (12 * 5) (12 * 5 + 5) = rowC 12 := by kernel_rfl
theorem ext_13 : rowsCells.extract (13 * 5) (13 * 5 + 5) = rowC 13 := by kernel_rfl
theorem ext_14 : rowsCells.extract (14 * 5) (14 * 5 + 5) = rowC 14 := by kernel_rfl
theorem ext_15 : rowsCells.extract (15 * 5) (15 * 5 + 5) = rowC 15 := by kernel_rfl
theorem ext_16 : rowsCells.extract (16 * 5) (16 * 5 + 5) = rowC 16 := by kernel_rfl
theorem ext_17 : rowsCells.extract (17 * 5) (17 * 5 + 5) = rowC 17 := by kernel_rfl
theorem ext_18 : rowsCells.extract (18 * 5) (18 * 5 + 5) = rowC 18 := by kernel_rfl
theorem ext_19 : rowsCells.extract (19 * 5) (19 * 5 + 5) = rowC 19 := by kernel_rfl
theorem ext_20 : rowsCells.extract (20 * 5) (20 * 5 + 5) = rowC 20 := by kernel_rfl
theorem ext_21 : rowsCells.extract (21 * 5) (21 * 5 + 5) = rowC 21 := by kernel_rfl
theorem ext_22 : rowsCells.extract (22 * 5) (22 * 5 + 5) = rowC 22 := by kernel_rfl
theorem ext_23 : rowsCells.extract (23 * 5) (23 * 5 + 5) = rowC 23 := by kernel_rfl
theorem ext_24 : rowsCells.extract (24 * 5) (24 * 5 + 5) = rowC 24 := by kernel_rfl
theorem ext_25 : rowsCells.extract (25 * 5) (25 * 5 + 5) = rowC 25 := by kernel_rfl
theorem ext_26 : rowsCells.extract (26 * 5) (26 * 5 + 5) = rowC 26 := by kernel_rfl
theorem ext_27 : rowsCells.extract (27 * 5) (27 * 5 + 5) = rowC 27 := by kernel_rfl
theorem ext_28 : rowsCells.extract (28 * 5) (28 * 5 + 5) = rowC 28 := by kernel_rfl
theorem ext_29 : rowsCells.extract (29 * 5) (29 * 5 + 5) = rowC 29 := by kernel_rfl
theorem ext_30 : rowsCells.extract (30 * 5) (30 * 5 + 5) = rowC 30 := by kernel_rfl
theorem ext_31 : rowsCells.extract (31 * 5) (31 * 5 + 5) = rowC 31 := by kernel_rfl
theorem ext_32 : rowsCells.extract (32 * 5) (32 * 5 + 5) = rowC 32 := by kernel_rfl
theorem ext_33 : rowsCells.extract (33 * 5) (33 * 5 + 5) = rowC 33 := by kernel_rfl
theorem ext_34 : rowsCells.extract (34 * 5) (34 * 5 + 5) = rowC 34 := by kernel_rfl
theorem ext_35 : rowsCells.extract (35 * 5) (35 * 5 + 5) = rowC 35 := by kernel_rfl
theorem ext_36 : rowsCells.extract (36 * 5) (36 * 5 + 5) = rowC 36 := by kernel_rfl
theorem ext_37 : rowsCells.extract (37 * 5) (37 * 5 + 5) = rowC 37 := by kernel_rfl
theorem ext_38 : rowsCells.extract (38 * 5) (38 * 5 + 5) = rowC 38 := by kernel_rfl
theorem ext_39 : rowsCells.extract (39 * 5) (39 * 5 + 5) = rowC 39 := by kernel_rfl
theorem ext_40 : rowsCells.extract (40 * 5) (40 * 5 + 5) = rowC 40 := by kernel_rfl
theorem ext_41 : rowsCells.extract (41 * 5) (41 * 5 + 5) = rowC 41 := by kernel_rfl
theorem ext_42 : rowsCells.extract (42 * 5) (42 * 5 + 5) = rowC 42 := by kernel_rfl
theorem ext_43 : rowsCells.extract (43 * 5) (43 * 5 + 5) = rowC 43 := by kernel_rfl
theorem ext_44 : rowsCells.extract (44 * 5) (44 * 5 + 5) = rowC 44 := by kernel_rfl
theorem ext_45 : rowsCells.extract (45 * 5) (45 * 5 + 5) = rowC 45 := by kernel_rfl
theorem ext_46 : rowsCells.extract (46 * 5) (46 * 5 + 5) = rowC 46 := by kernel_rfl
theorem ext_47 : rowsCells.extract (47 * 5) (47 * 5 + 5) = rowC 47 := by kernel_rfl
theorem ext_48 : rowsCells.extract (48 * 5) (48 * 5 + 5) = rowC 48 := by kernel_rfl
theorem ext_49 : rowsCells.extract (49 * 5) (49 * 5 + 5) = rowC 49 := by kernel_rfl
theorem ext_50 : rowsCells.extract (50 * 5) (50 * 5 + 5) = rowC 50 := by kernel_rfl
theorem ext_51 : rowsCells.extract (51 * 5) (51 * 5 + 5) = rowC 51 := by kernel_rfl
theorem ext_52 : rowsCells.extract (52 * 5) (52 * 5 + 5) = rowC 52 := by kernel_rfl
theorem ext_53 : rowsCells.extract (53 * 5) (53 * 5 + 5) = rowC 53 := by kernel_rfl
theorem ext_54 : rowsCells.extract (54 * 5) (54 * 5 + 5) = rowC 54 := by kernel_rfl
theorem ext_55 : rowsCells.extract (55 * 5) (55 * 5 + 5) = rowC 55 := by kernel_rfl
theorem ext_56 : rowsCells.extract (56 * 5) (56 * 5 + 5) = rowC 56 := by kernel_rfl
theorem ext_57 : rowsCells.extract (57 * 5) (57 * 5 + 5) = rowC 57 := by kernel_rfl
theorem ext_58 : rowsCells.extract (58 * 5) (58 * 5 + 5) = rowC 58 := by kernel_rfl
theorem ext_59 : rowsCells.extract (59 * 5) (59 * 5 + 5) = rowC 59 := by kernel_rfl
theorem ext_60 : rowsCells.extract (60 * 5) (60 * 5 + 5) = rowC 60 := by kernel_rfl
theorem ext_61 : rowsCells.extract (61 * 5) (61 * 5 + 5) = rowC 61 := by kernel_rfl
theorem ext_62 : rowsCells.extract (62 * 5) (62 * 5 + 5) = rowC 62 := by kernel_rfl
theorem ext_63 : rowsCells.extract (63 * 5) (63 * 5 + 5) = rowC 63 := by kernel_rfl
theorem ext_64 : rowsCells.extract (64 * 5) (64 * 5 + 5) = rowC 64 := by kernel_rfl
theorem ext_65 : rowsCells.extract (65 * 5) (65 * 5 + 5) = rowC 65 := by kernel_rfl
theorem ext_66 : rowsCells.extract (66 * 5) (66 * 5 + 5) = rowC 66 := by kernel_rfl
theorem ext_67 : rowsCells.extract (67 * 5) (67 * 5 + 5) = rowC 67 := by kernel_rfl
theorem ext_68 : rowsCells.extract (68 * 5) (68 * 5 + 5) = rowC 68 := by kernel_rfl
set_option maxRecDepth 100000 in
theorem ext_rows (k : Nat) (hk : k < 69) : rowsCells.extract (k * 5) (k * 5 + 5) = rowC k := by
  match k, hk with
  | 0, _ => exact ext_0
  | 1, _ => exact ext_1
  | 2, _ => exact ext_2
  | 3, _ => exact ext_3
  | 4, _ => exact ext_4
  | 5, _ => exact ext_5
  | 6, _ => exact ext_6
  | 7, _ => exact ext_7
  | 8, _ => exact ext_8
  | 9, _ => exact ext_9
  | 10, _ => exact ext_10
  | 11, _ => exact ext_11
  | 12, _ => exact ext_12
  | 13, _ => exact ext_13
  | 14, _ => exact ext_14
  | 15, _ => exact ext_15
  | 16, _ => exact ext_16
  | 17, _ => exact ext_17
  | 18, _ => exact ext_18
  | 19, _ => exact ext_19
  | 20, _ => exact ext_20
  | 21, _ => exact ext_21
  | 22, _ => exact ext_22
  | 23, _ => exact ext_23
  | 24, _ => exact ext_24
  | 25, _ => exact ext_25
  | 26, _ => exact ext_26
  | 27, _ => exact ext_27
  | 28, _ => exact ext_28
  | 29, _ => exact ext_29
  | 30, _ => exact ext_30
  | 31, _ => exact ext_31
  | 32, _ => exact ext_32
  | 33, _ => exact ext_33
  | 34, _ => exact ext_34
  | 35, _ => exact ext_35
  | 36, _ => exact ext_36
  | 37, _ => exact ext_37
  | 38, _ => exact ext_38
  | 39, _ => exact ext_39
  | 40, _ => exact ext_40
  | 41, _ => exact ext_41
  | 42, _ => exact ext_42
  | 43, _ => exact ext_43
  | 44, _ => exact ext_44
  | 45, _ => exact ext_45
  | 46, _ => exact ext_46
  | 47, _ => exact ext_47
  | 48, _ => exact ext_48
  | 49, _ => exact ext_49
  | 50, _ => exact ext_50
  | 51, _ => exact ext_51
  | 52, _ => exact ext_52
  | 53, _ => exact ext_53
  | 54, _ => exact ext_54
  | 55, _ => exact ext_55
  | 56, _ => exact ext_56
  | 57, _ => exact ext_57
  | 58, _ => exact ext_58
  | 59, _ => exact ext_59
  | 60, _ => exact ext_60
  | 61, _ => exact ext_61
  | 62, _ => exact ext_62
  | 63, _ => exact ext_63
  | 64, _ => exact ext_64
  | 65, _ => exact ext_65
  | 66, _ => exact ext_66
  | 67, _ => exact ext_67
  | 68, _ => exact ext_68
  | n + 69, h => omega
theorem index_rows (k : Nat) (hk : k < 69) (w : World) : (Kw.ixS 81 (.agg rowsCells) (.int .i64 ((k : Nat) : Int))).run Try.prog w = .ok (.value (.agg #[.string (nm k), .int .u8 (sh k), .int .u64 (u (cd k)), .int .u64 (u (ff k)), .int .u64 (u (ot k))])) w := by
  have h1 : (underlying 81).run Try.prog w = .ok (.array 69 59) w := run_underlying Try.underlying81 w
  have h2 : (sizeOf 59).run Try.prog w = .ok 5 w := by kernel_rfl
  have h4 := ext_rows k hk
  have h5 : (0 : Int) ≤ (k : Int) ∧ (k : Int) < ((69 : Nat) : Int) := by omega
  unfold Kw.ixS Instr.index
  simp [asIntOf, Sem.run_bind, h1, h2, h5, part]
  rw [if_pos hk, h4]
  rfl
set_option maxRecDepth 100000 in
theorem of_in (k : Nat) (hk : k < 69) (W : World) : Calls Try.prog 41 #[.int .i64 ((k + 1 : Nat) : Int)] W fun e W' => e = .returned (.tuple #[.agg (rowC k), .bool true]) ∧ Kw.Mem [] W W' [] := by
  refine calls_of_wp Try.func41 rfl ?_
  have M0 : Kw.Mem [] W W [] := Kw.Mem.start _ _
  refine Kw.to (b := ⟨#[.int .i64 ((k + 1 : Nat) : Int), undef, undef, undef, undef, undef, undef, undef, undef, undef, undef, undef, undef, undef, undef], []⟩) (by kernel_rfl) ?_
  refine wp_seq (Kw.region ?_)
  refine Kw.alloc #[.string ⟨#[]⟩, .int .u8 0, .int .u64 0, .int .u64 0, .int .u64 0] 59 M0 (by kernel_rfl) (by kernel_rfl) fun w1 B1 M1 => ?_
  refine KS.p (.bool false) ?_
  refine KS.n5 ?_
  refine KS.p (.int .i64 ((k + 1 : Nat) : Int)) ?_
  refine KS.s (Canon.opS .lss 3 (.tmp 4) (.const (.int .i64 1)) (.int .i64 ((k + 1 : Nat) : Int)) (.int .i64 1)) (.bool false) (Kw.eqv (v := .bool (decide (((k + 1 : Nat) : Int) < (1 : Int)))) (by kernel_rfl) (by rw [decide_eq_false (by omega)])) ?_
  refine KS.p (.bool false) ?_
  refine KS.p (.int .i64 ((k + 1 : Nat) : Int)) ?_
  refine KS.s (Canon.opS .gtr 3 (.tmp 7) (.const (.int .i64 69)) (.int .i64 ((k + 1 : Nat) : Int)) (.int .i64 69)) (.bool false) (Kw.eqv (v := .bool (decide (((k + 1 : Nat) : Int) > (69 : Int)))) (by kernel_rfl) (by rw [decide_eq_false (by omega)])) ?_
  refine KS.p (.bool false) ?_
  refine KS.n2 ?_
  refine wp_cond_false (by kernel_rfl) ?_
  refine wp_skip (Kw.then_normal (wp_seq (Kw.region ?_)))
  refine KS.c (.agg rowsCells) 53 #[] M1 (rows_c w1) fun w2 M2 => ?_
  refine KS.p (.int .i64 ((k + 1 : Nat) : Int)) ?_
  refine KS.s (Canon.opS .sub 3 (.tmp 12) (.const (.int .i64 1)) (.int .i64 ((k + 1 : Nat) : Int)) (.int .i64 1)) (.int .i64 ((k : Nat) : Int)) (Kw.eqv (v := .int .i64 (IntKind.i64.wrap (((k + 1 : Nat) : Int) - (1 : Int)))) (by kernel_rfl) (by rw [IntWalk.i64_in _ (by omega)]; congr 1; omega)) ?_
  refine KS.s (Kw.ixS 81 (.agg rowsCells) (.int .i64 ((k : Nat) : Int))) (.agg #[.string (nm k), .int .u8 (sh k), .int .u64 (u (cd k)), .int .u64 (u (ff k)), .int .u64 (u (ot k))]) (index_rows k hk w2) ?_
  refine Kw.storeAll 0 59 #[.string (nm k), .int .u8 (sh k), .int .u64 (u (cd k)), .int .u64 (u (ff k)), .int .u64 (u (ot k))] M2 rfl (by kernel_rfl) (by kernel_rfl) (by kernel_rfl) (by kernel_rfl) (by kernel_rfl) fun w3 M3 => ?_
  refine KS.p (.bool true) ?_
  refine Kw.fin (Kw.then_normal (wp_ret ?_))
  have hr4 : (loadVar 59 ⟨B1, 0, none⟩).run Try.prog w3 = .ok (.agg #[.string (nm k), .int .u8 (sh k), .int .u64 (u (cd k)), .int .u64 (u (ff k)), .int .u64 (u (ot k))]) w3 := run_loadVar_row w3 B1 59 59 _ (0, 0) _ (M3.get 0 rfl) Try.underlying59 rfl (by kernel_rfl)
  exact KS.r2 (.bool true) Try.results41 hr4 ⟨rfl, M3.drop⟩
set_option maxRecDepth 100000 in
theorem of_low (z : Int) (h : z < 1) (W : World) : Calls Try.prog 41 #[.int .i64 z] W fun e W' => e = .returned (.tuple #[.agg #[.string ⟨#[]⟩, .int .u8 0, .int .u64 0, .int .u64 0, .int .u64 0], .bool false]) ∧ Kw.Mem [] W W' [] := by
  refine calls_of_wp Try.func41 rfl ?_
  have M0 : Kw.Mem [] W W [] := Kw.Mem.start _ _
  refine Kw.to (b := ⟨#[.int .i64 z, undef, undef, undef, undef, undef, undef, undef, undef, undef, undef, undef, undef, undef, undef], []⟩) (by kernel_rfl) ?_
  refine wp_seq (Kw.region ?_)
  refine Kw.alloc #[.string ⟨#[]⟩, .int .u8 0, .int .u64 0, .int .u64 0, .int .u64 0] 59 M0 (by kernel_rfl) (by kernel_rfl) fun w1 B1 M1 => ?_
  refine KS.p (.bool false) ?_
  refine KS.n5 ?_
  refine KS.p (.int .i64 z) ?_
  refine KS.s (Canon.opS .lss 3 (.tmp 4) (.const (.int .i64 1)) (.int .i64 z) (.int .i64 1)) (.bool true) (Kw.eqv (v := .bool (decide (z < (1 : Int)))) (by kernel_rfl) (by rw [decide_eq_true (by omega)])) ?_
  refine KS.p (.bool true) ?_
  refine KS.k ?_
  refine KS.k ?_
  refine KS.p (.bool true) ?_
  refine KS.n2 ?_
  refine wp_cond_true (by kernel_rfl) ?_
  refine wp_seq (Kw.region ?_)
  refine KS.p (.agg #[.string ⟨#[]⟩, .int .u8 0, .int .u64 0, .int .u64 0, .int .u64 0]) ?_
  refine Kw.storeAll 0 59 #[.string ⟨#[]⟩, .int .u8 0, .int .u64 0, .int .u64 0, .int .u64 0] M1 rfl (by kernel_rfl) (by kernel_rfl) (by kernel_rfl) (by kernel_rfl) (by kernel_rfl) fun w2 M2 => ?_
  refine KS.p (.bool false) ?_
  refine Kw.fin (Kw.then_normal (wp_ret (Kw.then_ret ?_)))
  have hr3 : (loadVar 59 ⟨B1, 0, none⟩).run Try.prog w2 = .ok (.agg #[.string ⟨#[]⟩, .int .u8 0, .int .u64 0, .int .u64 0, .int .u64 0]) w2 := run_loadVar_row w2 B1 59 59 _ (0, 0) _ (M2.get 0 rfl) Try.underlying59 rfl (by kernel_rfl)
  exact KS.r2 (.bool false) Try.results41 hr3 ⟨rfl, M2.drop⟩
set_option maxRecDepth 100000 in
theorem of_high (z : Int) (h : 69 < z) (W : World) : Calls Try.prog 41 #[.int .i64 z] W fun e W' => e = .returned (.tuple #[.agg #[.string ⟨#[]⟩, .int .u8 0, .int .u64 0, .int .u64 0, .int .u64 0], .bool false]) ∧ Kw.Mem [] W W' [] := by
  refine calls_of_wp Try.func41 rfl ?_
  have M0 : Kw.Mem [] W W [] := Kw.Mem.start _ _
  refine Kw.to (b := ⟨#[.int .i64 z, undef, undef, undef, undef, undef, undef, undef, undef, undef, undef, undef, undef, undef, undef], []⟩) (by kernel_rfl) ?_
  refine wp_seq (Kw.region ?_)
  refine Kw.alloc #[.string ⟨#[]⟩, .int .u8 0, .int .u64 0, .int .u64 0, .int .u64 0] 59 M0 (by kernel_rfl) (by kernel_rfl) fun w1 B1 M1 => ?_
  refine KS.p (.bool false) ?_
  refine KS.n5 ?_
  refine KS.p (.int .i64 z) ?_
  refine KS.s (Canon.opS .lss 3 (.tmp 4) (.const (.int .i64 1)) (.int .i64 z) (.int .i64 1)) (.bool false) (Kw.eqv (v := .bool (decide (z < (1 : Int)))) (by kernel_rfl) (by rw [decide_eq_false (by omega)])) ?_
  refine KS.p (.bool false) ?_
  refine KS.p (.int .i64 z) ?_
  refine KS.s (Canon.opS .gtr 3 (.tmp 7) (.const (.int .i64 69)) (.int .i64 z) (.int .i64 69)) (.bool true) (Kw.eqv (v := .bool (decide (z > (69 : Int)))) (by kernel_rfl) (by rw [decide_eq_true (by omega)])) ?_
  refine KS.p (.bool true) ?_
  refine KS.n2 ?_
  refine wp_cond_true (by kernel_rfl) ?_
  refine wp_seq (Kw.region ?_)
  refine KS.p (.agg #[.string ⟨#[]⟩, .int .u8 0, .int .u64 0, .int .u64 0, .int .u64 0]) ?_
  refine Kw.storeAll 0 59 #[.string ⟨#[]⟩, .int .u8 0, .int .u64 0, .int .u64 0, .int .u64 0] M1 rfl (by kernel_rfl) (by kernel_rfl) (by kernel_rfl) (by kernel_rfl) (by kernel_rfl) fun w2 M2 => ?_
  refine KS.p (.bool false) ?_
  refine Kw.fin (Kw.then_normal (wp_ret (Kw.then_ret ?_)))
  have hr3 : (loadVar 59 ⟨B1, 0, none⟩).run Try.prog w2 = .ok (.agg #[.string ⟨#[]⟩, .int .u8 0, .int .u64 0, .int .u64 0, .int .u64 0]) w2 := run_loadVar_row w2 B1 59 59 _ (0, 0) _ (M2.get 0 rfl) Try.underlying59 rfl (by kernel_rfl)
  exact KS.r2 (.bool false) Try.results41 hr3 ⟨rfl, M2.drop⟩
end Go.Proofs.Ytpmpibcfmejbfaa.Inst
