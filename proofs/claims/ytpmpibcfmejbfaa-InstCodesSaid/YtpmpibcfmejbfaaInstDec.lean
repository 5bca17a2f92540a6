/- The instruction of a word, or none: what the program's function answers. No condition. -/
import Derived.Test.YtpmpibcfmejbfaaInstHas
import Derived.Test.YtpmpibcfmejbfaaInstRead
import Derived.Test.YtpmpibcfmejbfaaKS
namespace Go.Proofs.Ytpmpibcfmejbfaa.Inst
open Go.RowKit Go.Proofs.Ytpmpibcfmejbfaa.Bits
attribute [local irreducible] Go.wpList
set_option linter.unusedVariables false
theorem shapes (k : Nat) (hk : k < 69) : sh k = 82 ∨ sh k = 71 ∨ sh k = 73 ∨ sh k = 67 ∨ sh k = 72 ∨ sh k = 83 ∨ sh k = 66 ∨ sh k = 85 ∨ sh k = 74 ∨ sh k = 78 := by
  revert k; decide +kernel
theorem index_sh (c : Int) (k : Nat) (hk : k < 69) (hs : sh k = c) (w : World) : (Kw.ixS 81 (.agg rowsCells) (.int .i64 ((k : Nat) : Int))).run Try.prog w = .ok (.value (.agg #[.string (nm k), .int .u8 c, .int .u64 (u (cd k)), .int .u64 (u (ff k)), .int .u64 (u (ot k))])) w := by
  subst hs; exact index_rows k hk w
/-- What a word of a line of the table must be, and in which bits. -/
def fwk (k : Nat) : BitVec 64 := if sh k = 82 then (putI (putI (putI 0#64 0 7 (cd k)) 12 3 (ff k)) 25 7 (ot k)) else if sh k = 71 then (putI (putI (putI (putI 0#64 0 7 (cd k)) 12 3 (ff k)) 20 5 (ot k)) 25 7 127#64) else if sh k = 73 then (putI (putI 0#64 0 7 (cd k)) 12 3 (ff k)) else if sh k = 67 then (putI (putI 0#64 0 7 (cd k)) 12 3 (ff k)) else if sh k = 72 then (putI (putI (putI 0#64 0 7 (cd k)) 12 3 (ff k)) 26 6 (ot k)) else if sh k = 83 then (putI (putI 0#64 0 7 (cd k)) 12 3 (ff k)) else if sh k = 66 then (putI (putI 0#64 0 7 (cd k)) 12 3 (ff k)) else if sh k = 85 then (putI 0#64 0 7 (cd k)) else if sh k = 74 then (putI 0#64 0 7 (cd k)) else if sh k = 78 then (putI (putI (putI 0#64 0 7 (cd k)) 7 13 0#64) 20 12 (ot k)) else 0#64
def fmk (k : Nat) : BitVec 64 := if sh k = 82 then (putI (putI (putI 0#64 0 7 18446744073709551615#64) 12 3 18446744073709551615#64) 25 7 18446744073709551615#64) else if sh k = 71 then (putI (putI (putI (putI 0#64 0 7 18446744073709551615#64) 12 3 18446744073709551615#64) 20 5 18446744073709551615#64) 25 7 18446744073709551615#64) else if sh k = 73 then (putI (putI 0#64 0 7 18446744073709551615#64) 12 3 18446744073709551615#64) else if sh k = 67 then (putI (putI 0#64 0 7 18446744073709551615#64) 12 3 18446744073709551615#64) else if sh k = 72 then (putI (putI (putI 0#64 0 7 18446744073709551615#64) 12 3 18446744073709551615#64) 26 6 18446744073709551615#64) else if sh k = 83 then (putI (putI 0#64 0 7 18446744073709551615#64) 12 3 18446744073709551615#64) else if sh k = 66 then (putI (putI 0#64 0 7 18446744073709551615#64) 12 3 18446744073709551615#64) else if sh k = 85 then (putI 0#64 0 7 18446744073709551615#64) else if sh k = 74 then (putI 0#64 0 7 18446744073709551615#64) else if sh k = 78 then (putI (putI (putI 0#64 0 7 18446744073709551615#64) 7 13 18446744073709551615#64) 20 12 18446744073709551615#64) else 0#64
/-- What a word of a line of the table tells. -/
def decC (k : Nat) (x : BitVec 64) : Array Value := if sh k = 82 then #[.int .i64 ((k + 1 : Nat) : Int), .int .i64 (s (getI x 7 5)), .int .i64 (s (getI x 15 5)), .int .i64 (s (getI x 20 5)), .int .i64 (IntKind.i64.wrap 0)] else if sh k = 71 then #[.int .i64 ((k + 1 : Nat) : Int), .int .i64 (s (getI x 7 5)), .int .i64 (s (getI x 15 5)), .int .i64 0, .int .i64 (IntKind.i64.wrap 0)] else if sh k = 73 then #[.int .i64 ((k + 1 : Nat) : Int), .int .i64 (s (getI x 7 5)), .int .i64 (s (getI x 15 5)), .int .i64 0, .int .i64 (s (signI (putI 0#64 0 12 (getI x 20 12)) 12))] else if sh k = 67 then #[.int .i64 ((k + 1 : Nat) : Int), .int .i64 (s (getI x 7 5)), .int .i64 (s (getI x 15 5)), .int .i64 0, .int .i64 (s (putI 0#64 0 12 (getI x 20 12)))] else if sh k = 72 then #[.int .i64 ((k + 1 : Nat) : Int), .int .i64 (s (getI x 7 5)), .int .i64 (s (getI x 15 5)), .int .i64 0, .int .i64 (s (putI 0#64 0 6 (getI x 20 6)))] else if sh k = 83 then #[.int .i64 ((k + 1 : Nat) : Int), .int .i64 0, .int .i64 (s (getI x 15 5)), .int .i64 (s (getI x 20 5)), .int .i64 (s (signI (putI (putI 0#64 0 5 (getI x 7 5)) 5 7 (getI x 25 7)) 12))] else if sh k = 66 then #[.int .i64 ((k + 1 : Nat) : Int), .int .i64 0, .int .i64 (s (getI x 15 5)), .int .i64 (s (getI x 20 5)), .int .i64 (s (signI (putI (putI (putI (putI 0#64 1 4 (getI x 8 4)) 5 6 (getI x 25 6)) 11 1 (getI x 7 1)) 12 1 (getI x 31 1)) 13))] else if sh k = 85 then #[.int .i64 ((k + 1 : Nat) : Int), .int .i64 (s (getI x 7 5)), .int .i64 0, .int .i64 0, .int .i64 (s (signI (putI 0#64 12 20 (getI x 12 20)) 32))] else if sh k = 74 then #[.int .i64 ((k + 1 : Nat) : Int), .int .i64 (s (getI x 7 5)), .int .i64 0, .int .i64 0, .int .i64 (s (signI (putI (putI (putI (putI 0#64 12 8 (getI x 12 8)) 11 1 (getI x 20 1)) 1 10 (getI x 21 10)) 20 1 (getI x 31 1)) 21))] else if sh k = 78 then #[.int .i64 ((k + 1 : Nat) : Int), .int .i64 0, .int .i64 0, .int .i64 0, .int .i64 (IntKind.i64.wrap 0)] else #[]
/-- The line of the table that a word is of. -/
def decN (x : BitVec 64) : Option Nat := (List.range 69).find? fun k => x &&& fmk k == fwk k
def decV (x : BitVec 64) : Value := match decN x with
  | some k => .tuple #[.agg (decC k x), .bool true]
  | none => .tuple #[.agg #[.int .i64 0, .int .i64 0, .int .i64 0, .int .i64 0, .int .i64 0], .bool false]
theorem dec_none (x : BitVec 64) (h : ∀ j, j < 69 → (x &&& fmk j == fwk j) = false) : decV x = .tuple #[.agg #[.int .i64 0, .int .i64 0, .int .i64 0, .int .i64 0, .int .i64 0], .bool false] := by
  unfold decV decN
  rw [List.find?_eq_none.2 (fun j hj => by rw [h j (List.mem_range.1 hj)]; exact Bool.false_ne_true)]
theorem dec_at (x : BitVec 64) (k : Nat) (hk : k < 69) (h : ∀ j, j < k → (x &&& fmk j == fwk j) = false) (he : (x &&& fmk k == fwk k) = true) : decV x = .tuple #[.agg (decC k x), .bool true] := by
  unfold decV
  have : decN x = some k := by
    unfold decN
    rw [List.find?_range_eq_some]
    exact ⟨he, List.mem_range.2 hk, fun j hj => by rw [h j hj]; rfl⟩
  rw [this]
theorem ne_u {a c : BitVec 64} (h : (u a != u c) = true) : (a == c) = false := by
  rw [bne_iff_ne] at h
  rw [beq_eq_false_iff_ne]
  exact fun e => h (by rw [e])
theorem eq_u {a c : BitVec 64} (h : (u a != u c) = false) : (a == c) = true := by
  rw [bne_eq_false_iff_eq] at h
  rw [beq_iff_eq]
  exact u_inj h
theorem fix_R (k : Nat) (hs : sh k = 82) : fwk k = (putI (putI (putI 0#64 0 7 (cd k)) 12 3 (ff k)) 25 7 (ot k)) ∧ fmk k = (putI (putI (putI 0#64 0 7 18446744073709551615#64) 12 3 18446744073709551615#64) 25 7 18446744073709551615#64) := by
  unfold fwk fmk; simp only [hs]; exact ⟨rfl, rfl⟩
theorem dec_R (k : Nat) (x : BitVec 64) (hs : sh k = 82) : decC k x = #[.int .i64 ((k + 1 : Nat) : Int), .int .i64 (s (getI x 7 5)), .int .i64 (s (getI x 15 5)), .int .i64 (s (getI x 20 5)), .int .i64 (IntKind.i64.wrap 0)] := by
  unfold decC; simp only [hs]; rfl
theorem no_R (k : Nat) (hs : sh k = 82) (x : BitVec 64) (h : (u (x &&& (putI (putI (putI 0#64 0 7 18446744073709551615#64) 12 3 18446744073709551615#64) 25 7 18446744073709551615#64)) != u (putI (putI (putI 0#64 0 7 (cd k)) 12 3 (ff k)) 25 7 (ot k))) = true) : (x &&& fmk k == fwk k) = false := by
  obtain ⟨h1, h2⟩ := fix_R k hs; rw [h1, h2]; exact ne_u h
theorem yes_R (k : Nat) (hs : sh k = 82) (x : BitVec 64) (h : (u (x &&& (putI (putI (putI 0#64 0 7 18446744073709551615#64) 12 3 18446744073709551615#64) 25 7 18446744073709551615#64)) != u (putI (putI (putI 0#64 0 7 (cd k)) 12 3 (ff k)) 25 7 (ot k))) = false) : (x &&& fmk k == fwk k) = true := by
  obtain ⟨h1, h2⟩ := fix_R k hs; rw [h1, h2]; exact eq_u h
theorem fix_G (k : Nat) (hs : sh k = 71) : fwk k = (putI (putI (putI (putI 0#64 0 7 (cd k)) 12 3 (ff k)) 20 5 (ot k)) 25 7 127#64) ∧ fmk k = (putI (putI (putI (putI 0#64 0 7 18446744073709551615#64) 12 3 18446744073709551615#64) 20 5 18446744073709551615#64) 25 7 18446744073709551615#64) := by
  unfold fwk fmk; simp only [hs]; exact ⟨rfl, rfl⟩
theorem dec_G (k : Nat) (x : BitVec 64) (hs : sh k = 71) : decC k x = #[.int .i64 ((k + 1 : Nat) : Int), .int .i64 (s (getI x 7 5)), .int .i64 (s (getI x 15 5)), .int .i64 0, .int .i64 (IntKind.i64.wrap 0)] := by
  unfold decC; simp only [hs]; rfl
theorem no_G (k : Nat) (hs : sh k = 71) (x : BitVec 64) (h : (u (x &&& (putI (putI (putI (putI 0#64 0 7 18446744073709551615#64) 12 3 18446744073709551615#64) 20 5 18446744073709551615#64) 25 7 18446744073709551615#64)) != u (putI (putI (putI (putI 0#64 0 7 (cd k)) 12 3 (ff k)) 20 5 (ot k)) 25 7 127#64)) = true) : (x &&& fmk k == fwk k) = false := by
  obtain ⟨h1, h2⟩ := fix_G k hs; rw [h1, h2]; exact ne_u h
theorem yes_G (k : Nat) (hs : sh k = 71) (x : BitVec 64) (h : (u (x &&& (putI (putI (putI (putI 0#64 0 7 18446744073709551615#64) 12 3 18446744073709551615#64) 20 5 18446744073709551615#64) 25 7 18446744073709551615#64)) != u (putI (putI (putI (putI 0#64 0 7 (cd k)) 12 3 (ff k)) 20 5 (ot k)) 25 7 127#64)) = false) : (x &&& fmk k == fwk k) = true := by
  obtain ⟨h1, h2⟩ := fix_G k hs; rw [h1, h2]; exact eq_u h
theorem fix_I (k : Nat) (hs : sh k = 73) : fwk k = (putI (putI 0#64 0 7 (cd k)) 12 3 (ff k)) ∧ fmk k = (putI (putI 0#64 0 7 18446744073709551615#64) 12 3 18446744073709551615#64) := by
  unfold fwk fmk; simp only [hs]; exact ⟨rfl, rfl⟩
theorem dec_I (k : Nat) (x : BitVec 64) (hs : sh k = 73) : decC k x = #[.int .i64 ((k + 1 : Nat) : Int), .int .i64 (s (getI x 7 5)), .int .i64 (s (getI x 15 5)), .int .i64 0, .int .i64 (s (signI (putI 0#64 0 12 (getI x 20 12)) 12))] := by
  unfold decC; simp only [hs]; rfl
theorem no_I (k : Nat) (hs : sh k = 73) (x : BitVec 64) (h : (u (x &&& (putI (putI 0#64 0 7 18446744073709551615#64) 12 3 18446744073709551615#64)) != u (putI (putI 0#64 0 7 (cd k)) 12 3 (ff k))) = true) : (x &&& fmk k == fwk k) = false := by
  obtain ⟨h1, h2⟩ := fix_I k hs; rw [h1, h2]; exact ne_u h
theorem yes_I (k : Nat) (hs : sh k = 73) (x : BitVec 64) (h : (u (x &&& (putI (putI 0#64 0 7 18446744073709551615#64) 12 3 18446744073709551615#64)) != u (putI (putI 0#64 0 7 (cd k)) 12 3 (ff k))) = false) : (x &&& fmk k == fwk k) = true := by
  obtain ⟨h1, h2⟩ := fix_I k hs; rw [h1, h2]; exact eq_u h
theorem fix_C (k : Nat) (hs : sh k = 67) : fwk k = (putI (putI 0#64 0 7 (cd k)) 12 3 (ff k)) ∧ fmk k = (putI (putI 0#64 0 7 18446744073709551615#64) 12 3 18446744073709551615#64) := by
  unfold fwk fmk; simp only [hs]; exact ⟨rfl, rfl⟩
theorem dec_C (k : Nat) (x : BitVec 64) (hs : sh k = 67) : decC k x = #[.int .i64 ((k + 1 : Nat) : Int), .int .i64 (s (getI x 7 5)), .int .i64 (s (getI x 15 5)), .int .i64 0, .int .i64 (s (putI 0#64 0 12 (getI x 20 12)))] := by
  unfold decC; simp only [hs]; rfl
theorem no_C (k : Nat) (hs : sh k = 67) (x : BitVec 64) (h : (u (x &&& (putI (putI 0#64 0 7 18446744073709551615#64) 12 3 18446744073709551615#64)) != u (putI (putI 0#64 0 7 (cd k)) 12 3 (ff k))) = true) : (x &&& fmk k == fwk k) = false := by
  obtain ⟨h1, h2⟩ := fix_C k hs; rw [h1, h2]; exact ne_u h
theorem yes_C (k : Nat) (hs : sh k = 67) (x : BitVec 64) (h : (u (x &&& (putI (putI 0#64 0 7 18446744073709551615#64) 12 3 18446744073709551615#64)) != u (putI (putI 0#64 0 7 (cd k)) 12 3 (ff k))) = false) : (x &&& fmk k == fwk k) = true := by
  obtain ⟨h1, h2⟩ := fix_C k hs; rw [h1, h2]; exact eq_u h
theorem fix_H (k : Nat) (hs : sh k = 72) : fwk k = (putI (putI (putI 0#64 0 7 (cd k)) 12 3 (ff k)) 26 6 (ot k)) ∧ fmk k = (putI (putI (putI 0#64 0 7 18446744073709551615#64) 12 3 18446744073709551615#64) 26 6 18446744073709551615#64) := by
  unfold fwk fmk; simp only [hs]; exact ⟨rfl, rfl⟩
theorem dec_H (k : Nat) (x : BitVec 64) (hs : sh k = 72) : decC k x = #[.int .i64 ((k + 1 : Nat) : Int), .int .i64 (s (getI x 7 5)), .int .i64 (s (getI x 15 5)), .int .i64 0, .int .i64 (s (putI 0#64 0 6 (getI x 20 6)))] := by
  unfold decC; simp only [hs]; rfl
theorem no_H (k : Nat) (hs : sh k = 72) (x : BitVec 64) (h : (u (x &&& (putI (putI (putI 0#64 0 7 18446744073709551615#64) 12 3 18446744073709551615#64) 26 6 18446744073709551615#64)) != u (putI (putI (putI 0#64 0 7 (cd k)) 12 3 (ff k)) 26 6 (ot k))) = true) : (x &&& fmk k == fwk k) = false := by
  obtain ⟨h1, h2⟩ := fix_H k hs; rw [h1, h2]; exact ne_u h
theorem yes_H (k : Nat) (hs : sh k = 72) (x : BitVec 64) (h : (u (x &&& (putI (putI (putI 0#64 0 7 18446744073709551615#64) 12 3 18446744073709551615#64) 26 6 18446744073709551615#64)) != u (putI (putI (putI 0#64 0 7 (cd k)) 12 3 (ff k)) 26 6 (ot k))) = false) : (x &&& fmk k == fwk k) = true := by
  obtain ⟨h1, h2⟩ := fix_H k hs; rw [h1, h2]; exact eq_u h
theorem fix_S (k : Nat) (hs : sh k = 83) : fwk k = (putI (putI 0#64 0 7 (cd k)) 12 3 (ff k)) ∧ fmk k = (putI (putI 0#64 0 7 18446744073709551615#64) 12 3 18446744073709551615#64) := by
  unfold fwk fmk; simp only [hs]; exact ⟨rfl, rfl⟩
theorem dec_S (k : Nat) (x : BitVec 64) (hs : sh k = 83) : decC k x = #[.int .i64 ((k + 1 : Nat) : Int), .int .i64 0, .int .i64 (s (getI x 15 5)), .int .i64 (s (getI x 20 5)), .int .i64 (s (signI (putI (putI 0#64 0 5 (getI x 7 5)) 5 7 (getI x 25 7)) 12))] := by
  unfold decC; simp only [hs]; rfl
theorem no_S (k : Nat) (hs : sh k = 83) (x : BitVec 64) (h : (u (x &&& (putI (putI 0#64 0 7 18446744073709551615#64) 12 3 18446744073709551615#64)) != u (putI (putI 0#64 0 7 (cd k)) 12 3 (ff k))) = true) : (x &&& fmk k == fwk k) = false := by
  obtain ⟨h1, h2⟩ := fix_S k hs; rw [h1, h2]; exact ne_u h
theorem yes_S (k : Nat) (hs : sh k = 83) (x : BitVec 64) (h : (u (x &&& (putI (putI 0#64 0 7 18446744073709551615#64) 12 3 18446744073709551615#64)) != u (putI (putI 0#64 0 7 (cd k)) 12 3 (ff k))) = false) : (x &&& fmk k == fwk k) = true := by
  obtain ⟨h1, h2⟩ := fix_S k hs; rw [h1, h2]; exact eq_u h
theorem fix_B (k : Nat) (hs : sh k = 66) : fwk k = (putI (putI 0#64 0 7 (cd k)) 12 3 (ff k)) ∧ fmk k = (putI (putI 0#64 0 7 18446744073709551615#64) 12 3 18446744073709551615#64) := by
  unfold fwk fmk; simp only [hs]; exact ⟨rfl, rfl⟩
theorem dec_B (k : Nat) (x : BitVec 64) (hs : sh k = 66) : decC k x = #[.int .i64 ((k + 1 : Nat) : Int), .int .i64 0, .int .i64 (s (getI x 15 5)), .int .i64 (s (getI x 20 5)), .int .i64 (s (signI (putI (putI (putI (putI 0#64 1 4 (getI x 8 4)) 5 6 (getI x 25 6)) 11 1 (getI x 7 1)) 12 1 (getI x 31 1)) 13))] := by
  unfold decC; simp only [hs]; rfl
theorem no_B (k : Nat) (hs : sh k = 66) (x : BitVec 64) (h : (u (x &&& (putI (putI 0#64 0 7 18446744073709551615#64) 12 3 18446744073709551615#64)) != u (putI (putI 0#64 0 7 (cd k)) 12 3 (ff k))) = true) : (x &&& fmk k == fwk k) = false := by
  obtain ⟨h1, h2⟩ := fix_B k hs; rw [h1, h2]; exact ne_u h
theorem yes_B (k : Nat) (hs : sh k = 66) (x : BitVec 64) (h : (u (x &&& (putI (putI 0#64 0 7 18446744073709551615#64) 12 3 18446744073709551615#64)) != u (putI (putI 0#64 0 7 (cd k)) 12 3 (ff k))) = false) : (x &&& fmk k == fwk k) = true := by
  obtain ⟨h1, h2⟩ := fix_B k hs; rw [h1, h2]; exact eq_u h
theorem fix_U (k : Nat) (hs : sh k = 85) : fwk k = (putI 0#64 0 7 (cd k)) ∧ fmk k = (putI 0#64 0 7 18446744073709551615#64) := by
  unfold fwk fmk; simp only [hs]; exact ⟨rfl, rfl⟩
theorem dec_U (k : Nat) (x : BitVec 64) (hs : sh k = 85) : decC k x = #[.int .i64 ((k + 1 : Nat) : Int), .int .i64 (s (getI x 7 5)), .int .i64 0, .int .i64 0, .int .i64 (s (signI (putI 0#64 12 20 (getI x 12 20)) 32))] := by
  unfold decC; simp only [hs]; rfl
theorem no_U (k : Nat) (hs : sh k = 85) (x : BitVec 64) (h : (u (x &&& (putI 0#64 0 7 18446744073709551615#64)) != u (putI 0#64 0 7 (cd k))) = true) : (x &&& fmk k == fwk k) = false := by
  obtain ⟨h1, h2⟩ := fix_U k hs; rw [h1, h2]; exact ne_u h
theorem yes_U (k : Nat) (hs : sh k = 85) (x : BitVec 64) (h : (u (x &&& (putI 0#64 0 7 18446744073709551615#64)) != u (putI 0#64 0 7 (cd k))) = false) : (x &&& fmk k == fwk k) = true := by
  obtain ⟨h1, h2⟩ := fix_U k hs; rw [h1, h2]; exact eq_u h
theorem fix_J (k : Nat) (hs : sh k = 74) : fwk k = (putI 0#64 0 7 (cd k)) ∧ fmk k = (putI 0#64 0 7 18446744073709551615#64) := by
  unfold fwk fmk; simp only [hs]; exact ⟨rfl, rfl⟩
theorem dec_J (k : Nat) (x : BitVec 64) (hs : sh k = 74) : decC k x = #[.int .i64 ((k + 1 : Nat) : Int), .int .i64 (s (getI x 7 5)), .int .i64 0, .int .i64 0, .int .i64 (s (signI (putI (putI (putI (putI 0#64 12 8 (getI x 12 8)) 11 1 (getI x 20 1)) 1 10 (getI x 21 10)) 20 1 (getI x 31 1)) 21))] := by
  unfold decC; simp only [hs]; rfl
theorem no_J (k : Nat) (hs : sh k = 74) (x : BitVec 64) (h : (u (x &&& (putI 0#64 0 7 18446744073709551615#64)) != u (putI 0#64 0 7 (cd k))) = true) : (x &&& fmk k == fwk k) = false := by
  obtain ⟨h1, h2⟩ := fix_J k hs; rw [h1, h2]; exact ne_u h
theorem yes_J (k : Nat) (hs : sh k = 74) (x : BitVec 64) (h : (u (x &&& (putI 0#64 0 7 18446744073709551615#64)) != u (putI 0#64 0 7 (cd k))) = false) : (x &&& fmk k == fwk k) = true := by
  obtain ⟨h1, h2⟩ := fix_J k hs; rw [h1, h2]; exact eq_u h
theorem fix_N (k : Nat) (hs : sh k = 78) : fwk k = (putI (putI (putI 0#64 0 7 (cd k)) 7 13 0#64) 20 12 (ot k)) ∧ fmk k = (putI (putI (putI 0#64 0 7 18446744073709551615#64) 7 13 18446744073709551615#64) 20 12 18446744073709551615#64) := by
  unfold fwk fmk; simp only [hs]; exact ⟨rfl, rfl⟩
theorem dec_N (k : Nat) (x : BitVec 64) (hs : sh k = 78) : decC k x = #[.int .i64 ((k + 1 : Nat) : Int), .int .i64 0, .int .i64 0, .int .i64 0, .int .i64 (IntKind.i64.wrap 0)] := by
  unfold decC; simp only [hs]; rfl
theorem no_N (k : Nat) (hs : sh k = 78) (x : BitVec 64) (h : (u (x &&& (putI (putI (putI 0#64 0 7 18446744073709551615#64) 7 13 18446744073709551615#64) 20 12 18446744073709551615#64)) != u (putI (putI (putI 0#64 0 7 (cd k)) 7 13 0#64) 20 12 (ot k))) = true) : (x &&& fmk k == fwk k) = false := by
  obtain ⟨h1, h2⟩ := fix_N k hs; rw [h1, h2]; exact ne_u h
theorem yes_N (k : Nat) (hs : sh k = 78) (x : BitVec 64) (h : (u (x &&& (putI (putI (putI 0#64 0 7 18446744073709551615#64) 7 13 18446744073709551615#64) 20 12 18446744073709551615#64)) != u (putI (putI (putI 0#64 0 7 (cd k)) 7 13 0#64) 20 12 (ot k))) = false) : (x &&& fmk k == fwk k) = true := by
  obtain ⟨h1, h2⟩ := fix_N k hs; rw [h1, h2]; exact eq_u h
set_option maxRecDepth 100000 in
set_option maxHeartbeats 2000000 in
theorem decode_c (x : BitVec 64) (W : World) : Calls Try.prog 27 #[.int .u32 (u x)] W fun e W' => e = .returned (decV x) ∧ Kw.Mem [] W W' [] := by
  refine calls_of_wp Try.func27 rfl ?_
  have M0 : Kw.Mem [] W W [] := Kw.Mem.start _ _
  refine Kw.to (b := ⟨#[.int .u32 (u x), undef, undef, undef, undef, undef, undef, undef, undef, undef, undef, undef, undef, undef, undef, undef, undef, undef, undef, undef, undef, undef, undef, undef, undef, undef, undef, undef, undef, undef, undef, undef, undef, undef, undef, undef, undef, undef, undef, undef, undef, undef, undef, undef, undef, undef, undef, undef, undef, undef, undef, undef, undef, undef, undef, undef, undef, undef, undef, undef, undef, undef, undef], []⟩) (by kernel_rfl) ?_
  refine wp_seq (Kw.region ?_)
  refine Kw.alloc #[.int .i64 0, .int .i64 0, .int .i64 0, .int .i64 0, .int .i64 0] 36 M0 (by kernel_rfl) (by kernel_rfl) fun w1 B1 M1 => ?_
  refine KS.p (.bool false) ?_
  refine KS.n4 ?_
  refine KS.p (.int .u32 (u x)) ?_
  refine Kw.pure (.int .u64 (u x)) (by kernel_rfl) (Kw.eqv (v := .int .u64 (IntKind.u64.wrap (u x))) (by kernel_rfl) (congrArg (Value.int .u64) (wrap_u x))) ?_
  refine KS.p (.int .u64 (u x)) ?_
  refine KS.n5 ?_
  refine KS.c (.agg rowsCells) 53 #[] M1 (rows_c w1) fun w2 M2 => ?_
  refine KS.p (.int .i64 0) ?_
  refine Kw.fin (Kw.then_normal (wp_block ?_))
  refine Kw.to (b := ⟨#[.int .u32 (u x), undef, .pointer (some ⟨B1, 0, none⟩), .bool false, .int .u64 (u x), undef, undef, undef, undef, undef, undef, undef, undef, .int .u32 (u x), .int .u64 (u x), .agg rowsCells, .int .i64 0, undef, undef, undef, undef, undef, undef, undef, undef, undef, undef, undef, undef, undef, undef, undef, undef, undef, undef, undef, undef, undef, undef, undef, undef, undef, undef, undef, undef, undef, undef, undef, undef, undef, undef, undef, undef, undef, undef, undef, undef, undef, undef, undef, undef, undef, undef], []⟩) (by kernel_rfl) ?_
  refine wp_loop (fun a w => ∃ (k : Nat) (y3 y5 y6 y7 y8 y9 y10 y11 y12 y17 y18 y19 y20 y21 y22 y23 y24 y25 y26 y27 y28 y29 y30 y31 y32 y33 y34 y35 y36 y37 y38 y39 y40 y41 y42 y43 y44 y45 y46 y47 y48 y49 y50 y51 y52 y53 y54 y55 y56 y57 y58 y59 y60 y61 : Value), k ≤ 69 ∧ (∀ j, j < k → (x &&& fmk j == fwk j) = false) ∧ a = ⟨#[.int .u32 (u x), undef, .pointer (some ⟨B1, 0, none⟩), y3, .int .u64 (u x), y5, y6, y7, y8, y9, y10, y11, y12, .int .u32 (u x), .int .u64 (u x), .agg rowsCells, .int .i64 ((k : Nat) : Int), y17, y18, y19, y20, y21, y22, y23, y24, y25, y26, y27, y28, y29, y30, y31, y32, y33, y34, y35, y36, y37, y38, y39, y40, y41, y42, y43, y44, y45, y46, y47, y48, y49, y50, y51, y52, y53, y54, y55, y56, y57, y58, y59, y60, y61, undef], []⟩ ∧ Kw.Mem [] W w [(B1, #[.int .i64 0, .int .i64 0, .int .i64 0, .int .i64 0, .int .i64 0], 36)]) (fun a _ => 69 - (intOf (a.tmps.getD 16 undef)).toNat) ⟨0, .bool false, undef, undef, undef, undef, undef, undef, undef, undef, undef, undef, undef, undef, undef, undef, undef, undef, undef, undef, undef, undef, undef, undef, undef, undef, undef, undef, undef, undef, undef, undef, undef, undef, undef, undef, undef, undef, undef, undef, undef, undef, undef, undef, undef, undef, undef, undef, undef, undef, undef, undef, undef, undef, undef, by omega, fun j hj => by omega, rfl, M2⟩ (fun a w hI => ?_)
  obtain ⟨k, y3, y5, y6, y7, y8, y9, y10, y11, y12, y17, y18, y19, y20, y21, y22, y23, y24, y25, y26, y27, y28, y29, y30, y31, y32, y33, y34, y35, y36, y37, y38, y39, y40, y41, y42, y43, y44, y45, y46, y47, y48, y49, y50, y51, y52, y53, y54, y55, y56, y57, y58, y59, y60, y61, hk, hno, rfl, M⟩ := hI
  clear M0
  by_cases hlt : k < 69
  · skip
    rcases shapes k hlt with hs | hs | hs | hs | hs | hs | hs | hs | hs | hs
    · skip
      refine wp_seq (Kw.region ?_)
      refine KS.s (Canon.opS .lss 3 (.tmp 16) (.const (.int .i64 69)) (.int .i64 ((k : Nat) : Int)) (.int .i64 69)) (.bool true) (Kw.eqv (v := .bool (decide (((k : Nat) : Int) < (69 : Int)))) (by kernel_rfl) (by rw [decide_eq_true (by omega)])) ?_
      refine Kw.fin (Kw.then_normal (wp_seq ?_))
      refine wp_cond_true (by kernel_rfl) ?_
      refine wp_skip (Kw.then_normal (wp_seq (wp_block (wp_seq (Kw.region ?_)))))
      refine KS.p (.int .i64 ((k : Nat) : Int)) ?_
      refine KS.s (Kw.ixS 81 (.agg rowsCells) (.int .i64 ((k : Nat) : Int))) (.agg #[.string (nm k), .int .u8 82, .int .u64 (u (cd k)), .int .u64 (u (ff k)), .int .u64 (u (ot k))]) (index_sh 82 k hlt hs w) ?_
      refine Kw.alloc #[.string ⟨#[]⟩, .int .u8 0, .int .u64 0, .int .u64 0, .int .u64 0] 59 M (by kernel_rfl) (by kernel_rfl) fun w3 B3 M3 => ?_
      refine KS.p (.int .i64 ((k : Nat) : Int)) ?_
      refine Kw.storeAll 0 59 #[.string (nm k), .int .u8 82, .int .u64 (u (cd k)), .int .u64 (u (ff k)), .int .u64 (u (ot k))] M3 rfl (by kernel_rfl) (by kernel_rfl) (by kernel_rfl) (by kernel_rfl) (by kernel_rfl) fun w4 M4 => ?_
      refine KS.n4 ?_
      refine KS.la 59 B3 _ M4 0 Try.underlying59 ?_
      refine KS.c (.tuple #[.int .u64 (u (putI (putI (putI 0#64 0 7 (cd k)) 12 3 (ff k)) 25 7 (ot k))), .int .u64 (u (putI (putI (putI 0#64 0 7 18446744073709551615#64) 12 3 18446744073709551615#64) 25 7 18446744073709551615#64))]) 44 #[.agg #[.string (nm k), .int .u8 82, .int .u64 (u (cd k)), .int .u64 (u (ff k)), .int .u64 (u (ot k))]] M4 (fixed_R (nm k) (cd k) (ff k) (ot k) w4) fun w5 M5 => ?_
      refine KS.p (.tuple #[.int .u64 (u (putI (putI (putI 0#64 0 7 (cd k)) 12 3 (ff k)) 25 7 (ot k))), .int .u64 (u (putI (putI (putI 0#64 0 7 18446744073709551615#64) 12 3 18446744073709551615#64) 25 7 18446744073709551615#64))]) ?_
      refine KS.p (.int .u64 (u (putI (putI (putI 0#64 0 7 (cd k)) 12 3 (ff k)) 25 7 (ot k)))) ?_
      refine KS.p (.int .u64 (u (putI (putI (putI 0#64 0 7 18446744073709551615#64) 12 3 18446744073709551615#64) 25 7 18446744073709551615#64))) ?_
      refine KS.p (.int .u64 (u (putI (putI (putI 0#64 0 7 (cd k)) 12 3 (ff k)) 25 7 (ot k)))) ?_
      refine KS.p (.int .u64 (u (putI (putI (putI 0#64 0 7 18446744073709551615#64) 12 3 18446744073709551615#64) 25 7 18446744073709551615#64))) ?_
      refine KS.n5 ?_
      refine KS.p (.int .u64 (u x)) ?_
      refine KS.p (.int .u64 (u (putI (putI (putI 0#64 0 7 18446744073709551615#64) 12 3 18446744073709551615#64) 25 7 18446744073709551615#64))) ?_
      refine KS.s (Canon.opS .and 22 (.tmp 25) (.tmp 26) (.int .u64 (u x)) (.int .u64 (u (putI (putI (putI 0#64 0 7 18446744073709551615#64) 12 3 18446744073709551615#64) 25 7 18446744073709551615#64)))) (.int .u64 (u (x &&& (putI (putI (putI 0#64 0 7 18446744073709551615#64) 12 3 18446744073709551615#64) 25 7 18446744073709551615#64)))) (Kw.eqv (v := .int .u64 (Go.bits .and .u64 ((u x)) ((u (putI (putI (putI 0#64 0 7 18446744073709551615#64) 12 3 18446744073709551615#64) 25 7 18446744073709551615#64))))) (by kernel_rfl) (congrArg (Value.int .u64) (bits_and x (putI (putI (putI 0#64 0 7 18446744073709551615#64) 12 3 18446744073709551615#64) 25 7 18446744073709551615#64)))) ?_
      refine KS.p (.int .u64 (u (putI (putI (putI 0#64 0 7 (cd k)) 12 3 (ff k)) 25 7 (ot k)))) ?_
      refine KS.s (Canon.opS .neq 22 (.tmp 27) (.tmp 28) (.int .u64 (u (x &&& (putI (putI (putI 0#64 0 7 18446744073709551615#64) 12 3 18446744073709551615#64) 25 7 18446744073709551615#64)))) (.int .u64 (u (putI (putI (putI 0#64 0 7 (cd k)) 12 3 (ff k)) 25 7 (ot k))))) (.bool ((u (x &&& (putI (putI (putI 0#64 0 7 18446744073709551615#64) 12 3 18446744073709551615#64) 25 7 18446744073709551615#64))) != (u (putI (putI (putI 0#64 0 7 (cd k)) 12 3 (ff k)) 25 7 (ot k))))) (by kernel_rfl) ?_
      refine KS.n2 ?_
      refine wp_cond_split (t := ((u (x &&& (putI (putI (putI 0#64 0 7 18446744073709551615#64) 12 3 18446744073709551615#64) 25 7 18446744073709551615#64))) != (u (putI (putI (putI 0#64 0 7 (cd k)) 12 3 (ff k)) 25 7 (ot k))))) (by kernel_rfl) (fun h6 => ?_) (fun h6 => ?_)
      · skip
        refine wp_exit (Kw.then_exit (Kw.block_hit (Kw.then_normal (Kw.region ?_))))
        refine KS.s (Canon.opS .add 3 (.tmp 16) (.const (.int .i64 1)) (.int .i64 ((k : Nat) : Int)) (.int .i64 1)) (.int .i64 ((k + 1 : Nat) : Int)) (Kw.eqv (v := .int .i64 (IntKind.i64.wrap (((k : Nat) : Int) + (1 : Int)))) (by kernel_rfl) (by rw [IntWalk.i64_in _ (by omega)]; rfl)) ?_
        refine KS.p (.int .i64 ((k + 1 : Nat) : Int)) ?_
        refine KS.n2 ?_
        exact ⟨⟨k + 1, y3, .int .i64 ((k : Nat) : Int), .pointer (some ⟨B3, 0, none⟩), .int .u64 (u (putI (putI (putI 0#64 0 7 (cd k)) 12 3 (ff k)) 25 7 (ot k))), .int .u64 (u (putI (putI (putI 0#64 0 7 18446744073709551615#64) 12 3 18446744073709551615#64) 25 7 18446744073709551615#64)), y9, y10, y11, y12, .bool true, .int .i64 ((k : Nat) : Int), .agg #[.string (nm k), .int .u8 82, .int .u64 (u (cd k)), .int .u64 (u (ff k)), .int .u64 (u (ot k))], .tuple #[.int .u64 (u (putI (putI (putI 0#64 0 7 (cd k)) 12 3 (ff k)) 25 7 (ot k))), .int .u64 (u (putI (putI (putI 0#64 0 7 18446744073709551615#64) 12 3 18446744073709551615#64) 25 7 18446744073709551615#64))], .agg #[.string (nm k), .int .u8 82, .int .u64 (u (cd k)), .int .u64 (u (ff k)), .int .u64 (u (ot k))], .tuple #[.int .u64 (u (putI (putI (putI 0#64 0 7 (cd k)) 12 3 (ff k)) 25 7 (ot k))), .int .u64 (u (putI (putI (putI 0#64 0 7 18446744073709551615#64) 12 3 18446744073709551615#64) 25 7 18446744073709551615#64))], .int .u64 (u (putI (putI (putI 0#64 0 7 (cd k)) 12 3 (ff k)) 25 7 (ot k))), .int .u64 (u (putI (putI (putI 0#64 0 7 18446744073709551615#64) 12 3 18446744073709551615#64) 25 7 18446744073709551615#64)), .int .u64 (u x), .int .u64 (u (putI (putI (putI 0#64 0 7 18446744073709551615#64) 12 3 18446744073709551615#64) 25 7 18446744073709551615#64)), .int .u64 (u (x &&& (putI (putI (putI 0#64 0 7 18446744073709551615#64) 12 3 18446744073709551615#64) 25 7 18446744073709551615#64))), .int .u64 (u (putI (putI (putI 0#64 0 7 (cd k)) 12 3 (ff k)) 25 7 (ot k))), .bool ((u (x &&& (putI (putI (putI 0#64 0 7 18446744073709551615#64) 12 3 18446744073709551615#64) 25 7 18446744073709551615#64))) != (u (putI (putI (putI 0#64 0 7 (cd k)) 12 3 (ff k)) 25 7 (ot k)))), y30, y31, y32, y33, y34, y35, y36, y37, y38, y39, y40, y41, y42, y43, y44, y45, y46, y47, y48, y49, y50, y51, y52, y53, y54, y55, y56, y57, y58, y59, y60, .int .i64 ((k + 1 : Nat) : Int), by omega, fun j hj => (by rcases Nat.lt_or_ge j k with h | h; { exact hno j h }; { obtain rfl : j = k := (by omega); exact no_R j hs x (by assumption) }), by kernel_rfl, (Held.mem_tail M5)⟩, Kw.mlt (69 - (k + 1)) (69 - k) (by kernel_rfl) (by kernel_rfl) (by omega)⟩
      · skip
        refine wp_skip (Kw.then_normal (wp_seq (Kw.region ?_)))
        refine KS.p (.int .i64 ((k : Nat) : Int)) ?_
        refine KS.s (Canon.opS .add 3 (.tmp 30) (.const (.int .i64 1)) (.int .i64 ((k : Nat) : Int)) (.int .i64 1)) (.int .i64 ((k + 1 : Nat) : Int)) (Kw.eqv (v := .int .i64 (IntKind.i64.wrap (((k : Nat) : Int) + (1 : Int)))) (by kernel_rfl) (by rw [IntWalk.i64_in _ (by omega)]; rfl)) ?_
        refine KS.p (.pointer (some ⟨B3, 1, none⟩)) ?_
        refine KS.l 5 B3 1 (.int .u8 82) M5 0 Try.underlying5 ?_
        refine KS.c (.agg #[.slice none 0 0, .int .i64 0, .bool false, .int .i64 0]) 42 #[.int .u8 82] M5 (laid_R w5) fun w7 M7 => ?_
        refine KS.p (.int .u64 (u x)) ?_
        refine KS.c (.int .i64 (IntKind.i64.wrap 0)) 54 #[.agg #[.slice none 0 0, .int .i64 0, .bool false, .int .i64 0], .int .u64 (u x)] M7 (read_R x w7) fun w8 M8 => ?_
        refine KS.p (.agg #[.int .i64 ((k + 1 : Nat) : Int), .int .i64 0, .int .i64 0, .int .i64 0, .int .i64 (IntKind.i64.wrap 0)]) ?_
        refine Kw.alloc #[.int .i64 0, .int .i64 0, .int .i64 0, .int .i64 0, .int .i64 0] 36 M8 (by kernel_rfl) (by kernel_rfl) fun w9 B9 M9 => ?_
        refine Kw.storeAll 0 36 #[.int .i64 ((k + 1 : Nat) : Int), .int .i64 0, .int .i64 0, .int .i64 0, .int .i64 (IntKind.i64.wrap 0)] M9 rfl (by kernel_rfl) (by kernel_rfl) (by kernel_rfl) (by kernel_rfl) (by kernel_rfl) fun w10 M10 => ?_
        refine KS.n4 ?_
        refine KS.p (.pointer (some ⟨B3, 1, none⟩)) ?_
        refine KS.l 5 B3 1 (.int .u8 82) M10 1 Try.underlying5 ?_
        refine KS.c (.tuple #[.bool true, .bool true, .bool true]) 45 #[.int .u8 82] M10 (has_R w10) fun w11 M11 => ?_
        refine KS.p (.tuple #[.bool true, .bool true, .bool true]) ?_
        refine KS.p (.bool true) ?_
        refine KS.p (.bool true) ?_
        refine KS.p (.bool true) ?_
        refine KS.p (.bool true) ?_
        refine KS.p (.bool true) ?_
        refine KS.p (.bool true) ?_
        refine KS.n5 ?_
        refine KS.p (.bool true) ?_
        refine KS.n2 ?_
        refine wp_cond_true (by kernel_rfl) ?_
        refine Kw.region ?_
        refine KS.p (.int .u64 (u x)) ?_
        refine KS.c (.int .u64 (u (getI x 7 5))) 36 #[.int .u64 (u x), .int .i64 7, .int .i64 5] M11 (get_c x 7 5 w11) fun w12 M12 => ?_
        refine Kw.pure (.int .i64 (s (getI x 7 5))) (by kernel_rfl) (Kw.eqv (v := .int .i64 (IntKind.i64.wrap (u (getI x 7 5)))) (by kernel_rfl) (congrArg (Value.int .i64) (wrapi_u (getI x 7 5)))) ?_
        refine KS.p (.pointer (some ⟨B9, 1, none⟩)) ?_
        refine Kw.storeCell 0 3 1 (.int .i64 (s (getI x 7 5))) #[.int .i64 ((k + 1 : Nat) : Int), .int .i64 (s (getI x 7 5)), .int .i64 0, .int .i64 0, .int .i64 (IntKind.i64.wrap 0)] M12 rfl (by kernel_rfl) (by kernel_rfl) (show 1 < 5 from by decide) (by kernel_rfl) rfl (by kernel_rfl) (by kernel_rfl) fun w13 M13 => ?_
        refine KS.n5 ?_
        refine KS.p (.bool true) ?_
        refine KS.n2 ?_
        refine wp_cond_true (by kernel_rfl) ?_
        refine Kw.region ?_
        refine KS.p (.int .u64 (u x)) ?_
        refine KS.c (.int .u64 (u (getI x 15 5))) 36 #[.int .u64 (u x), .int .i64 15, .int .i64 5] M13 (get_c x 15 5 w13) fun w14 M14 => ?_
        refine Kw.pure (.int .i64 (s (getI x 15 5))) (by kernel_rfl) (Kw.eqv (v := .int .i64 (IntKind.i64.wrap (u (getI x 15 5)))) (by kernel_rfl) (congrArg (Value.int .i64) (wrapi_u (getI x 15 5)))) ?_
        refine KS.p (.pointer (some ⟨B9, 2, none⟩)) ?_
        refine Kw.storeCell 0 3 2 (.int .i64 (s (getI x 15 5))) #[.int .i64 ((k + 1 : Nat) : Int), .int .i64 (s (getI x 7 5)), .int .i64 (s (getI x 15 5)), .int .i64 0, .int .i64 (IntKind.i64.wrap 0)] M14 rfl (by kernel_rfl) (by kernel_rfl) (show 2 < 5 from by decide) (by kernel_rfl) rfl (by kernel_rfl) (by kernel_rfl) fun w15 M15 => ?_
        refine KS.n5 ?_
        refine KS.p (.bool true) ?_
        refine KS.n2 ?_
        refine wp_cond_true (by kernel_rfl) ?_
        refine Kw.region ?_
        refine KS.p (.int .u64 (u x)) ?_
        refine KS.c (.int .u64 (u (getI x 20 5))) 36 #[.int .u64 (u x), .int .i64 20, .int .i64 5] M15 (get_c x 20 5 w15) fun w16 M16 => ?_
        refine Kw.pure (.int .i64 (s (getI x 20 5))) (by kernel_rfl) (Kw.eqv (v := .int .i64 (IntKind.i64.wrap (u (getI x 20 5)))) (by kernel_rfl) (congrArg (Value.int .i64) (wrapi_u (getI x 20 5)))) ?_
        refine KS.p (.pointer (some ⟨B9, 3, none⟩)) ?_
        refine Kw.storeCell 0 3 3 (.int .i64 (s (getI x 20 5))) #[.int .i64 ((k + 1 : Nat) : Int), .int .i64 (s (getI x 7 5)), .int .i64 (s (getI x 15 5)), .int .i64 (s (getI x 20 5)), .int .i64 (IntKind.i64.wrap 0)] M16 rfl (by kernel_rfl) (by kernel_rfl) (show 3 < 5 from by decide) (by kernel_rfl) rfl (by kernel_rfl) (by kernel_rfl) fun w17 M17 => ?_
        refine KS.n4 ?_
        refine KS.la 36 B9 _ M17 0 Try.underlying36 ?_
        refine Kw.storeAll 2 36 #[.int .i64 ((k + 1 : Nat) : Int), .int .i64 (s (getI x 7 5)), .int .i64 (s (getI x 15 5)), .int .i64 (s (getI x 20 5)), .int .i64 (IntKind.i64.wrap 0)] M17 rfl (by kernel_rfl) (by kernel_rfl) (by kernel_rfl) (by kernel_rfl) (by kernel_rfl) fun w18 M18 => ?_
        refine KS.p (.bool true) ?_
        refine Kw.fin (Kw.then_normal (wp_ret (Kw.block_ret (Kw.then_ret (Kw.then_ret (Kw.block_ret (Kw.then_ret ?_)))))))
        have hr19 : (loadVar 36 ⟨B1, 0, none⟩).run Try.prog w18 = .ok (.agg #[.int .i64 ((k + 1 : Nat) : Int), .int .i64 (s (getI x 7 5)), .int .i64 (s (getI x 15 5)), .int .i64 (s (getI x 20 5)), .int .i64 (IntKind.i64.wrap 0)]) w18 := run_loadVar_row w18 B1 36 36 _ (0, 0) _ (M18.get 2 rfl) Try.underlying36 rfl (by kernel_rfl)
        exact KS.r2 (.bool true) Try.results27 hr19 ⟨by rw [dec_at x k hlt hno (yes_R k hs x (by assumption)), dec_R k x hs], M18.drop⟩
    · skip
      refine wp_seq (Kw.region ?_)
      refine KS.s (Canon.opS .lss 3 (.tmp 16) (.const (.int .i64 69)) (.int .i64 ((k : Nat) : Int)) (.int .i64 69)) (.bool true) (Kw.eqv (v := .bool (decide (((k : Nat) : Int) < (69 : Int)))) (by kernel_rfl) (by rw [decide_eq_true (by omega)])) ?_
      refine Kw.fin (Kw.then_normal (wp_seq ?_))
      refine wp_cond_true (by kernel_rfl) ?_
      refine wp_skip (Kw.then_normal (wp_seq (wp_block (wp_seq (Kw.region ?_)))))
      refine KS.p (.int .i64 ((k : Nat) : Int)) ?_
      refine KS.s (Kw.ixS 81 (.agg rowsCells) (.int .i64 ((k : Nat) : Int))) (.agg #[.string (nm k), .int .u8 71, .int .u64 (u (cd k)), .int .u64 (u (ff k)), .int .u64 (u (ot k))]) (index_sh 71 k hlt hs w) ?_
      refine Kw.alloc #[.string ⟨#[]⟩, .int .u8 0, .int .u64 0, .int .u64 0, .int .u64 0] 59 M (by kernel_rfl) (by kernel_rfl) fun w20 B20 M20 => ?_
      refine KS.p (.int .i64 ((k : Nat) : Int)) ?_
      refine Kw.storeAll 0 59 #[.string (nm k), .int .u8 71, .int .u64 (u (cd k)), .int .u64 (u (ff k)), .int .u64 (u (ot k))] M20 rfl (by kernel_rfl) (by kernel_rfl) (by kernel_rfl) (by kernel_rfl) (by kernel_rfl) fun w21 M21 => ?_
      refine KS.n4 ?_
      refine KS.la 59 B20 _ M21 0 Try.underlying59 ?_
      refine KS.c (.tuple #[.int .u64 (u (putI (putI (putI (putI 0#64 0 7 (cd k)) 12 3 (ff k)) 20 5 (ot k)) 25 7 127#64)), .int .u64 (u (putI (putI (putI (putI 0#64 0 7 18446744073709551615#64) 12 3 18446744073709551615#64) 20 5 18446744073709551615#64) 25 7 18446744073709551615#64))]) 44 #[.agg #[.string (nm k), .int .u8 71, .int .u64 (u (cd k)), .int .u64 (u (ff k)), .int .u64 (u (ot k))]] M21 (fixed_G (nm k) (cd k) (ff k) (ot k) w21) fun w22 M22 => ?_
      refine KS.p (.tuple #[.int .u64 (u (putI (putI (putI (putI 0#64 0 7 (cd k)) 12 3 (ff k)) 20 5 (ot k)) 25 7 127#64)), .int .u64 (u (putI (putI (putI (putI 0#64 0 7 18446744073709551615#64) 12 3 18446744073709551615#64) 20 5 18446744073709551615#64) 25 7 18446744073709551615#64))]) ?_
      refine KS.p (.int .u64 (u (putI (putI (putI (putI 0#64 0 7 (cd k)) 12 3 (ff k)) 20 5 (ot k)) 25 7 127#64))) ?_
      refine KS.p (.int .u64 (u (putI (putI (putI (putI 0#64 0 7 18446744073709551615#64) 12 3 18446744073709551615#64) 20 5 18446744073709551615#64) 25 7 18446744073709551615#64))) ?_
      refine KS.p (.int .u64 (u (putI (putI (putI (putI 0#64 0 7 (cd k)) 12 3 (ff k)) 20 5 (ot k)) 25 7 127#64))) ?_
      refine KS.p (.int .u64 (u (putI (putI (putI (putI 0#64 0 7 18446744073709551615#64) 12 3 18446744073709551615#64) 20 5 18446744073709551615#64) 25 7 18446744073709551615#64))) ?_
      refine KS.n5 ?_
      refine KS.p (.int .u64 (u x)) ?_
      refine KS.p (.int .u64 (u (putI (putI (putI (putI 0#64 0 7 18446744073709551615#64) 12 3 18446744073709551615#64) 20 5 18446744073709551615#64) 25 7 18446744073709551615#64))) ?_
      refine KS.s (Canon.opS .and 22 (.tmp 25) (.tmp 26) (.int .u64 (u x)) (.int .u64 (u (putI (putI (putI (putI 0#64 0 7 18446744073709551615#64) 12 3 18446744073709551615#64) 20 5 18446744073709551615#64) 25 7 18446744073709551615#64)))) (.int .u64 (u (x &&& (putI (putI (putI (putI 0#64 0 7 18446744073709551615#64) 12 3 18446744073709551615#64) 20 5 18446744073709551615#64) 25 7 18446744073709551615#64)))) (Kw.eqv (v := .int .u64 (Go.bits .and .u64 ((u x)) ((u (putI (putI (putI (putI 0#64 0 7 18446744073709551615#64) 12 3 18446744073709551615#64) 20 5 18446744073709551615#64) 25 7 18446744073709551615#64))))) (by kernel_rfl) (congrArg (Value.int .u64) (bits_and x (putI (putI (putI (putI 0#64 0 7 18446744073709551615#64) 12 3 18446744073709551615#64) 20 5 18446744073709551615#64) 25 7 18446744073709551615#64)))) ?_
      refine KS.p (.int .u64 (u (putI (putI (putI (putI 0#64 0 7 (cd k)) 12 3 (ff k)) 20 5 (ot k)) 25 7 127#64))) ?_
      refine KS.s (Canon.opS .neq 22 (.tmp 27) (.tmp 28) (.int .u64 (u (x &&& (putI (putI (putI (putI 0#64 0 7 18446744073709551615#64) 12 3 18446744073709551615#64) 20 5 18446744073709551615#64) 25 7 18446744073709551615#64)))) (.int .u64 (u (putI (putI (putI (putI 0#64 0 7 (cd k)) 12 3 (ff k)) 20 5 (ot k)) 25 7 127#64)))) (.bool ((u (x &&& (putI (putI (putI (putI 0#64 0 7 18446744073709551615#64) 12 3 18446744073709551615#64) 20 5 18446744073709551615#64) 25 7 18446744073709551615#64))) != (u (putI (putI (putI (putI 0#64 0 7 (cd k)) 12 3 (ff k)) 20 5 (ot k)) 25 7 127#64)))) (by kernel_rfl) ?_
      refine KS.n2 ?_
      refine wp_cond_split (t := ((u (x &&& (putI (putI (putI (putI 0#64 0 7 18446744073709551615#64) 12 3 18446744073709551615#64) 20 5 18446744073709551615#64) 25 7 18446744073709551615#64))) != (u (putI (putI (putI (putI 0#64 0 7 (cd k)) 12 3 (ff k)) 20 5 (ot k)) 25 7 127#64)))) (by kernel_rfl) (fun h23 => ?_) (fun h23 => ?_)
      · skip
        refine wp_exit (Kw.then_exit (Kw.block_hit (Kw.then_normal (Kw.region ?_))))
        refine KS.s (Canon.opS .add 3 (.tmp 16) (.const (.int .i64 1)) (.int .i64 ((k : Nat) : Int)) (.int .i64 1)) (.int .i64 ((k + 1 : Nat) : Int)) (Kw.eqv (v := .int .i64 (IntKind.i64.wrap (((k : Nat) : Int) + (1 : Int)))) (by kernel_rfl) (by rw [IntWalk.i64_in _ (by omega)]; rfl)) ?_
        refine KS.p (.int .i64 ((k + 1 : Nat) : Int)) ?_
        refine KS.n2 ?_
        exact ⟨⟨k + 1, y3, .int .i64 ((k : Nat) : Int), .pointer (some ⟨B20, 0, none⟩), .int .u64 (u (putI (putI (putI (putI 0#64 0 7 (cd k)) 12 3 (ff k)) 20 5 (ot k)) 25 7 127#64)), .int .u64 (u (putI (putI (putI (putI 0#64 0 7 18446744073709551615#64) 12 3 18446744073709551615#64) 20 5 18446744073709551615#64) 25 7 18446744073709551615#64)), y9, y10, y11, y12, .bool true, .int .i64 ((k : Nat) : Int), .agg #[.string (nm k), .int .u8 71, .int .u64 (u (cd k)), .int .u64 (u (ff k)), .int .u64 (u (ot k))], .tuple #[.int .u64 (u (putI (putI (putI (putI 0#64 0 7 (cd k)) 12 3 (ff k)) 20 5 (ot k)) 25 7 127#64)), .int .u64 (u (putI (putI (putI (putI 0#64 0 7 18446744073709551615#64) 12 3 18446744073709551615#64) 20 5 18446744073709551615#64) 25 7 18446744073709551615#64))], .agg #[.string (nm k), .int .u8 71, .int .u64 (u (cd k)), .int .u64 (u (ff k)), .int .u64 (u (ot k))], .tuple #[.int .u64 (u (putI (putI (putI (putI 0#64 0 7 (cd k)) 12 3 (ff k)) 20 5 (ot k)) 25 7 127#64)), .int .u64 (u (putI (putI (putI (putI 0#64 0 7 18446744073709551615#64) 12 3 18446744073709551615#64) 20 5 18446744073709551615#64) 25 7 18446744073709551615#64))], .int .u64 (u (putI (putI (putI (putI 0#64 0 7 (cd k)) 12 3 (ff k)) 20 5 (ot k)) 25 7 127#64)), .int .u64 (u (putI (putI (putI (putI 0#64 0 7 18446744073709551615#64) 12 3 18446744073709551615#64) 20 5 18446744073709551615#64) 25 7 18446744073709551615#64)), .int .u64 (u x), .int .u64 (u (putI (putI (putI (putI 0#64 0 7 18446744073709551615#64) 12 3 18446744073709551615#64) 20 5 18446744073709551615#64) 25 7 18446744073709551615#64)), .int .u64 (u (x &&& (putI (putI (putI (putI 0#64 0 7 18446744073709551615#64) 12 3 18446744073709551615#64) 20 5 18446744073709551615#64) 25 7 18446744073709551615#64))), .int .u64 (u (putI (putI (putI (putI 0#64 0 7 (cd k)) 12 3 (ff k)) 20 5 (ot k)) 25 7 127#64)), .bool ((u (x &&& (putI (putI (putI (putI 0#64 0 7 18446744073709551615#64) 12 3 18446744073709551615#64) 20 5 18446744073709551615#64) 25 7 18446744073709551615#64))) != (u (putI (putI (putI (putI 0#64 0 7 (cd k)) 12 3 (ff k)) 20 5 (ot k)) 25 7 127#64))), y30, y31, y32, y33, y34, y35, y36, y37, y38, y39, y40, y41, y42, y43, y44, y45, y46, y47, y48, y49, y50, y51, y52, y53, y54, y55, y56, y57, y58, y59, y60, .int .i64 ((k + 1 : Nat) : Int), by omega, fun j hj => (by rcases Nat.lt_or_ge j k with h | h; { exact hno j h }; { obtain rfl : j = k := (by omega); exact no_G j hs x (by assumption) }), by kernel_rfl, (Held.mem_tail M22)⟩, Kw.mlt (69 - (k + 1)) (69 - k) (by kernel_rfl) (by kernel_rfl) (by omega)⟩
      · skip
        refine wp_skip (Kw.then_normal (wp_seq (Kw.region ?_)))
        refine KS.p (.int .i64 ((k : Nat) : Int)) ?_
        refine KS.s (Canon.opS .add 3 (.tmp 30) (.const (.int .i64 1)) (.int .i64 ((k : Nat) : Int)) (.int .i64 1)) (.int .i64 ((k + 1 : Nat) : Int)) (Kw.eqv (v := .int .i64 (IntKind.i64.wrap (((k : Nat) : Int) + (1 : Int)))) (by kernel_rfl) (by rw [IntWalk.i64_in _ (by omega)]; rfl)) ?_
        refine KS.p (.pointer (some ⟨B20, 1, none⟩)) ?_
        refine KS.l 5 B20 1 (.int .u8 71) M22 0 Try.underlying5 ?_
        refine KS.c (.agg #[.slice none 0 0, .int .i64 0, .bool false, .int .i64 0]) 42 #[.int .u8 71] M22 (laid_G w22) fun w24 M24 => ?_
        refine KS.p (.int .u64 (u x)) ?_
        refine KS.c (.int .i64 (IntKind.i64.wrap 0)) 54 #[.agg #[.slice none 0 0, .int .i64 0, .bool false, .int .i64 0], .int .u64 (u x)] M24 (read_R x w24) fun w25 M25 => ?_
        refine KS.p (.agg #[.int .i64 ((k + 1 : Nat) : Int), .int .i64 0, .int .i64 0, .int .i64 0, .int .i64 (IntKind.i64.wrap 0)]) ?_
        refine Kw.alloc #[.int .i64 0, .int .i64 0, .int .i64 0, .int .i64 0, .int .i64 0] 36 M25 (by kernel_rfl) (by kernel_rfl) fun w26 B26 M26 => ?_
        refine Kw.storeAll 0 36 #[.int .i64 ((k + 1 : Nat) : Int), .int .i64 0, .int .i64 0, .int .i64 0, .int .i64 (IntKind.i64.wrap 0)] M26 rfl (by kernel_rfl) (by kernel_rfl) (by kernel_rfl) (by kernel_rfl) (by kernel_rfl) fun w27 M27 => ?_
        refine KS.n4 ?_
        refine KS.p (.pointer (some ⟨B20, 1, none⟩)) ?_
        refine KS.l 5 B20 1 (.int .u8 71) M27 1 Try.underlying5 ?_
        refine KS.c (.tuple #[.bool true, .bool true, .bool false]) 45 #[.int .u8 71] M27 (has_G w27) fun w28 M28 => ?_
        refine KS.p (.tuple #[.bool true, .bool true, .bool false]) ?_
        refine KS.p (.bool true) ?_
        refine KS.p (.bool true) ?_
        refine KS.p (.bool false) ?_
        refine KS.p (.bool true) ?_
        refine KS.p (.bool true) ?_
        refine KS.p (.bool false) ?_
        refine KS.n5 ?_
        refine KS.p (.bool true) ?_
        refine KS.n2 ?_
        refine wp_cond_true (by kernel_rfl) ?_
        refine Kw.region ?_
        refine KS.p (.int .u64 (u x)) ?_
        refine KS.c (.int .u64 (u (getI x 7 5))) 36 #[.int .u64 (u x), .int .i64 7, .int .i64 5] M28 (get_c x 7 5 w28) fun w29 M29 => ?_
        refine Kw.pure (.int .i64 (s (getI x 7 5))) (by kernel_rfl) (Kw.eqv (v := .int .i64 (IntKind.i64.wrap (u (getI x 7 5)))) (by kernel_rfl) (congrArg (Value.int .i64) (wrapi_u (getI x 7 5)))) ?_
        refine KS.p (.pointer (some ⟨B26, 1, none⟩)) ?_
        refine Kw.storeCell 0 3 1 (.int .i64 (s (getI x 7 5))) #[.int .i64 ((k + 1 : Nat) : Int), .int .i64 (s (getI x 7 5)), .int .i64 0, .int .i64 0, .int .i64 (IntKind.i64.wrap 0)] M29 rfl (by kernel_rfl) (by kernel_rfl) (show 1 < 5 from by decide) (by kernel_rfl) rfl (by kernel_rfl) (by kernel_rfl) fun w30 M30 => ?_
        refine KS.n5 ?_
        refine KS.p (.bool true) ?_
        refine KS.n2 ?_
        refine wp_cond_true (by kernel_rfl) ?_
        refine Kw.region ?_
        refine KS.p (.int .u64 (u x)) ?_
        refine KS.c (.int .u64 (u (getI x 15 5))) 36 #[.int .u64 (u x), .int .i64 15, .int .i64 5] M30 (get_c x 15 5 w30) fun w31 M31 => ?_
        refine Kw.pure (.int .i64 (s (getI x 15 5))) (by kernel_rfl) (Kw.eqv (v := .int .i64 (IntKind.i64.wrap (u (getI x 15 5)))) (by kernel_rfl) (congrArg (Value.int .i64) (wrapi_u (getI x 15 5)))) ?_
        refine KS.p (.pointer (some ⟨B26, 2, none⟩)) ?_
        refine Kw.storeCell 0 3 2 (.int .i64 (s (getI x 15 5))) #[.int .i64 ((k + 1 : Nat) : Int), .int .i64 (s (getI x 7 5)), .int .i64 (s (getI x 15 5)), .int .i64 0, .int .i64 (IntKind.i64.wrap 0)] M31 rfl (by kernel_rfl) (by kernel_rfl) (show 2 < 5 from by decide) (by kernel_rfl) rfl (by kernel_rfl) (by kernel_rfl) fun w32 M32 => ?_
        refine KS.n5 ?_
        refine KS.p (.bool false) ?_
        refine KS.n2 ?_
        refine wp_cond_false (by kernel_rfl) ?_
        refine wp_skip (Kw.then_normal (wp_seq (Kw.region ?_)))
        refine KS.la 36 B26 _ M32 0 Try.underlying36 ?_
        refine Kw.storeAll 2 36 #[.int .i64 ((k + 1 : Nat) : Int), .int .i64 (s (getI x 7 5)), .int .i64 (s (getI x 15 5)), .int .i64 0, .int .i64 (IntKind.i64.wrap 0)] M32 rfl (by kernel_rfl) (by kernel_rfl) (by kernel_rfl) (by kernel_rfl) (by kernel_rfl) fun w33 M33 => ?_
        refine KS.p (.bool true) ?_
        refine Kw.fin (Kw.then_normal (wp_ret (Kw.block_ret (Kw.then_ret (Kw.then_ret (Kw.block_ret (Kw.then_ret ?_)))))))
        have hr34 : (loadVar 36 ⟨B1, 0, none⟩).run Try.prog w33 = .ok (.agg #[.int .i64 ((k + 1 : Nat) : Int), .int .i64 (s (getI x 7 5)), .int .i64 (s (getI x 15 5)), .int .i64 0, .int .i64 (IntKind.i64.wrap 0)]) w33 := run_loadVar_row w33 B1 36 36 _ (0, 0) _ (M33.get 2 rfl) Try.underlying36 rfl (by kernel_rfl)
        exact KS.r2 (.bool true) Try.results27 hr34 ⟨by rw [dec_at x k hlt hno (yes_G k hs x (by assumption)), dec_G k x hs], M33.drop⟩
    · skip
      refine wp_seq (Kw.region ?_)
      refine KS.s (Canon.opS .lss 3 (.tmp 16) (.const (.int .i64 69)) (.int .i64 ((k : Nat) : Int)) (.int .i64 69)) (.bool true) (Kw.eqv (v := .bool (decide (((k : Nat) : Int) < (69 : Int)))) (by kernel_rfl) (by rw [decide_eq_true (by omega)])) ?_
      refine Kw.fin (Kw.then_normal (wp_seq ?_))
      refine wp_cond_true (by kernel_rfl) ?_
      refine wp_skip (Kw.then_normal (wp_seq (wp_block (wp_seq (Kw.region ?_)))))
      refine KS.p (.int .i64 ((k : Nat) : Int)) ?_
      refine KS.s (Kw.ixS 81 (.agg rowsCells) (.int .i64 ((k : Nat) : Int))) (.agg #[.string (nm k), .int .u8 73, .int .u64 (u (cd k)), .int .u64 (u (ff k)), .int .u64 (u (ot k))]) (index_sh 73 k hlt hs w) ?_
      refine Kw.alloc #[.string ⟨#[]⟩, .int .u8 0, .int .u64 0, .int .u64 0, .int .u64 0] 59 M (by kernel_rfl) (by kernel_rfl) fun w35 B35 M35 => ?_
      refine KS.p (.int .i64 ((k : Nat) : Int)) ?_
      refine Kw.storeAll 0 59 #[.string (nm k), .int .u8 73, .int .u64 (u (cd k)), .int .u64 (u (ff k)), .int .u64 (u (ot k))] M35 rfl (by kernel_rfl) (by kernel_rfl) (by kernel_rfl) (by kernel_rfl) (by kernel_rfl) fun w36 M36 => ?_
      refine KS.n4 ?_
      refine KS.la 59 B35 _ M36 0 Try.underlying59 ?_
      refine KS.c (.tuple #[.int .u64 (u (putI (putI 0#64 0 7 (cd k)) 12 3 (ff k))), .int .u64 (u (putI (putI 0#64 0 7 18446744073709551615#64) 12 3 18446744073709551615#64))]) 44 #[.agg #[.string (nm k), .int .u8 73, .int .u64 (u (cd k)), .int .u64 (u (ff k)), .int .u64 (u (ot k))]] M36 (fixed_I (nm k) (cd k) (ff k) (ot k) w36) fun w37 M37 => ?_
      refine KS.p (.tuple #[.int .u64 (u (putI (putI 0#64 0 7 (cd k)) 12 3 (ff k))), .int .u64 (u (putI (putI 0#64 0 7 18446744073709551615#64) 12 3 18446744073709551615#64))]) ?_
      refine KS.p (.int .u64 (u (putI (putI 0#64 0 7 (cd k)) 12 3 (ff k)))) ?_
      refine KS.p (.int .u64 (u (putI (putI 0#64 0 7 18446744073709551615#64) 12 3 18446744073709551615#64))) ?_
      refine KS.p (.int .u64 (u (putI (putI 0#64 0 7 (cd k)) 12 3 (ff k)))) ?_
      refine KS.p (.int .u64 (u (putI (putI 0#64 0 7 18446744073709551615#64) 12 3 18446744073709551615#64))) ?_
      refine KS.n5 ?_
      refine KS.p (.int .u64 (u x)) ?_
      refine KS.p (.int .u64 (u (putI (putI 0#64 0 7 18446744073709551615#64) 12 3 18446744073709551615#64))) ?_
      refine KS.s (Canon.opS .and 22 (.tmp 25) (.tmp 26) (.int .u64 (u x)) (.int .u64 (u (putI (putI 0#64 0 7 18446744073709551615#64) 12 3 18446744073709551615#64)))) (.int .u64 (u (x &&& (putI (putI 0#64 0 7 18446744073709551615#64) 12 3 18446744073709551615#64)))) (Kw.eqv (v := .int .u64 (Go.bits .and .u64 ((u x)) ((u (putI (putI 0#64 0 7 18446744073709551615#64) 12 3 18446744073709551615#64))))) (by kernel_rfl) (congrArg (Value.int .u64) (bits_and x (putI (putI 0#64 0 7 18446744073709551615#64) 12 3 18446744073709551615#64)))) ?_
      refine KS.p (.int .u64 (u (putI (putI 0#64 0 7 (cd k)) 12 3 (ff k)))) ?_
      refine KS.s (Canon.opS .neq 22 (.tmp 27) (.tmp 28) (.int .u64 (u (x &&& (putI (putI 0#64 0 7 18446744073709551615#64) 12 3 18446744073709551615#64)))) (.int .u64 (u (putI (putI 0#64 0 7 (cd k)) 12 3 (ff k))))) (.bool ((u (x &&& (putI (putI 0#64 0 7 18446744073709551615#64) 12 3 18446744073709551615#64))) != (u (putI (putI 0#64 0 7 (cd k)) 12 3 (ff k))))) (by kernel_rfl) ?_
      refine KS.n2 ?_
      refine wp_cond_split (t := ((u (x &&& (putI (putI 0#64 0 7 18446744073709551615#64) 12 3 18446744073709551615#64))) != (u (putI (putI 0#64 0 7 (cd k)) 12 3 (ff k))))) (by kernel_rfl) (fun h38 => ?_) (fun h38 => ?_)
      · skip
        refine wp_exit (Kw.then_exit (Kw.block_hit (Kw.then_normal (Kw.region ?_))))
        refine KS.s (Canon.opS .add 3 (.tmp 16) (.const (.int .i64 1)) (.int .i64 ((k : Nat) : Int)) (.int .i64 1)) (.int .i64 ((k + 1 : Nat) : Int)) (Kw.eqv (v := .int .i64 (IntKind.i64.wrap (((k : Nat) : Int) + (1 : Int)))) (by kernel_rfl) (by rw [IntWalk.i64_in _ (by omega)]; rfl)) ?_
        refine KS.p (.int .i64 ((k + 1 : Nat) : Int)) ?_
        refine KS.n2 ?_
        exact ⟨⟨k + 1, y3, .int .i64 ((k : Nat) : Int), .pointer (some ⟨B35, 0, none⟩), .int .u64 (u (putI (putI 0#64 0 7 (cd k)) 12 3 (ff k))), .int .u64 (u (putI (putI 0#64 0 7 18446744073709551615#64) 12 3 18446744073709551615#64)), y9, y10, y11, y12, .bool true, .int .i64 ((k : Nat) : Int), .agg #[.string (nm k), .int .u8 73, .int .u64 (u (cd k)), .int .u64 (u (ff k)), .int .u64 (u (ot k))], .tuple #[.int .u64 (u (putI (putI 0#64 0 7 (cd k)) 12 3 (ff k))), .int .u64 (u (putI (putI 0#64 0 7 18446744073709551615#64) 12 3 18446744073709551615#64))], .agg #[.string (nm k), .int .u8 73, .int .u64 (u (cd k)), .int .u64 (u (ff k)), .int .u64 (u (ot k))], .tuple #[.int .u64 (u (putI (putI 0#64 0 7 (cd k)) 12 3 (ff k))), .int .u64 (u (putI (putI 0#64 0 7 18446744073709551615#64) 12 3 18446744073709551615#64))], .int .u64 (u (putI (putI 0#64 0 7 (cd k)) 12 3 (ff k))), .int .u64 (u (putI (putI 0#64 0 7 18446744073709551615#64) 12 3 18446744073709551615#64)), .int .u64 (u x), .int .u64 (u (putI (putI 0#64 0 7 18446744073709551615#64) 12 3 18446744073709551615#64)), .int .u64 (u (x &&& (putI (putI 0#64 0 7 18446744073709551615#64) 12 3 18446744073709551615#64))), .int .u64 (u (putI (putI 0#64 0 7 (cd k)) 12 3 (ff k))), .bool ((u (x &&& (putI (putI 0#64 0 7 18446744073709551615#64) 12 3 18446744073709551615#64))) != (u (putI (putI 0#64 0 7 (cd k)) 12 3 (ff k)))), y30, y31, y32, y33, y34, y35, y36, y37, y38, y39, y40, y41, y42, y43, y44, y45, y46, y47, y48, y49, y50, y51, y52, y53, y54, y55, y56, y57, y58, y59, y60, .int .i64 ((k + 1 : Nat) : Int), by omega, fun j hj => (by rcases Nat.lt_or_ge j k with h | h; { exact hno j h }; { obtain rfl : j = k := (by omega); exact no_I j hs x (by assumption) }), by kernel_rfl, (Held.mem_tail M37)⟩, Kw.mlt (69 - (k + 1)) (69 - k) (by kernel_rfl) (by kernel_rfl) (by omega)⟩
      · skip
        refine wp_skip (Kw.then_normal (wp_seq (Kw.region ?_)))
        refine KS.p (.int .i64 ((k : Nat) : Int)) ?_
        refine KS.s (Canon.opS .add 3 (.tmp 30) (.const (.int .i64 1)) (.int .i64 ((k : Nat) : Int)) (.int .i64 1)) (.int .i64 ((k + 1 : Nat) : Int)) (Kw.eqv (v := .int .i64 (IntKind.i64.wrap (((k : Nat) : Int) + (1 : Int)))) (by kernel_rfl) (by rw [IntWalk.i64_in _ (by omega)]; rfl)) ?_
        refine KS.p (.pointer (some ⟨B35, 1, none⟩)) ?_
        refine KS.l 5 B35 1 (.int .u8 73) M37 0 Try.underlying5 ?_
        refine Held.callN (fun B => (.agg #[.slice (some ⟨B, 0, none⟩) 1 1, .int .i64 12, .bool true, .int .i64 0])) 42 #[.int .u8 73] #[.int .i64 0, .int .i64 12, .int .i64 20] 89 M37 (by kernel_rfl) (by kernel_rfl) (laid_I w37) fun w39 B39 M39 => ?_
        refine KS.p (.int .u64 (u x)) ?_
        refine KS.c (.int .i64 (s (signI (putI 0#64 0 12 (getI x 20 12)) 12))) 54 #[.agg #[.slice (some ⟨B39, 0, none⟩) 1 1, .int .i64 12, .bool true, .int .i64 0], .int .u64 (u x)] M39 (read_I x w39 B39 (Held.mem_of M39 0 rfl)) fun w40 M40 => ?_
        refine KS.p (.agg #[.int .i64 ((k + 1 : Nat) : Int), .int .i64 0, .int .i64 0, .int .i64 0, .int .i64 (s (signI (putI 0#64 0 12 (getI x 20 12)) 12))]) ?_
        refine Kw.alloc #[.int .i64 0, .int .i64 0, .int .i64 0, .int .i64 0, .int .i64 0] 36 M40 (by kernel_rfl) (by kernel_rfl) fun w41 B41 M41 => ?_
        refine Kw.storeAll 0 36 #[.int .i64 ((k + 1 : Nat) : Int), .int .i64 0, .int .i64 0, .int .i64 0, .int .i64 (s (signI (putI 0#64 0 12 (getI x 20 12)) 12))] M41 rfl (by kernel_rfl) (by kernel_rfl) (by kernel_rfl) (by kernel_rfl) (by kernel_rfl) fun w42 M42 => ?_
        refine KS.n4 ?_
        refine KS.p (.pointer (some ⟨B35, 1, none⟩)) ?_
        refine KS.l 5 B35 1 (.int .u8 73) M42 2 Try.underlying5 ?_
        refine KS.c (.tuple #[.bool true, .bool true, .bool false]) 45 #[.int .u8 73] M42 (has_I w42) fun w43 M43 => ?_
        refine KS.p (.tuple #[.bool true, .bool true, .bool false]) ?_
        refine KS.p (.bool true) ?_
        refine KS.p (.bool true) ?_
        refine KS.p (.bool false) ?_
        refine KS.p (.bool true) ?_
        refine KS.p (.bool true) ?_
        refine KS.p (.bool false) ?_
        refine KS.n5 ?_
        refine KS.p (.bool true) ?_
        refine KS.n2 ?_
        refine wp_cond_true (by kernel_rfl) ?_
        refine Kw.region ?_
        refine KS.p (.int .u64 (u x)) ?_
        refine KS.c (.int .u64 (u (getI x 7 5))) 36 #[.int .u64 (u x), .int .i64 7, .int .i64 5] M43 (get_c x 7 5 w43) fun w44 M44 => ?_
        refine Kw.pure (.int .i64 (s (getI x 7 5))) (by kernel_rfl) (Kw.eqv (v := .int .i64 (IntKind.i64.wrap (u (getI x 7 5)))) (by kernel_rfl) (congrArg (Value.int .i64) (wrapi_u (getI x 7 5)))) ?_
        refine KS.p (.pointer (some ⟨B41, 1, none⟩)) ?_
        refine Kw.storeCell 0 3 1 (.int .i64 (s (getI x 7 5))) #[.int .i64 ((k + 1 : Nat) : Int), .int .i64 (s (getI x 7 5)), .int .i64 0, .int .i64 0, .int .i64 (s (signI (putI 0#64 0 12 (getI x 20 12)) 12))] M44 rfl (by kernel_rfl) (by kernel_rfl) (show 1 < 5 from by decide) (by kernel_rfl) rfl (by kernel_rfl) (by kernel_rfl) fun w45 M45 => ?_
        refine KS.n5 ?_
        refine KS.p (.bool true) ?_
        refine KS.n2 ?_
        refine wp_cond_true (by kernel_rfl) ?_
        refine Kw.region ?_
        refine KS.p (.int .u64 (u x)) ?_
        refine KS.c (.int .u64 (u (getI x 15 5))) 36 #[.int .u64 (u x), .int .i64 15, .int .i64 5] M45 (get_c x 15 5 w45) fun w46 M46 => ?_
        refine Kw.pure (.int .i64 (s (getI x 15 5))) (by kernel_rfl) (Kw.eqv (v := .int .i64 (IntKind.i64.wrap (u (getI x 15 5)))) (by kernel_rfl) (congrArg (Value.int .i64) (wrapi_u (getI x 15 5)))) ?_
        refine KS.p (.pointer (some ⟨B41, 2, none⟩)) ?_
        refine Kw.storeCell 0 3 2 (.int .i64 (s (getI x 15 5))) #[.int .i64 ((k + 1 : Nat) : Int), .int .i64 (s (getI x 7 5)), .int .i64 (s (getI x 15 5)), .int .i64 0, .int .i64 (s (signI (putI 0#64 0 12 (getI x 20 12)) 12))] M46 rfl (by kernel_rfl) (by kernel_rfl) (show 2 < 5 from by decide) (by kernel_rfl) rfl (by kernel_rfl) (by kernel_rfl) fun w47 M47 => ?_
        refine KS.n5 ?_
        refine KS.p (.bool false) ?_
        refine KS.n2 ?_
        refine wp_cond_false (by kernel_rfl) ?_
        refine wp_skip (Kw.then_normal (wp_seq (Kw.region ?_)))
        refine KS.la 36 B41 _ M47 0 Try.underlying36 ?_
        refine Kw.storeAll 3 36 #[.int .i64 ((k + 1 : Nat) : Int), .int .i64 (s (getI x 7 5)), .int .i64 (s (getI x 15 5)), .int .i64 0, .int .i64 (s (signI (putI 0#64 0 12 (getI x 20 12)) 12))] M47 rfl (by kernel_rfl) (by kernel_rfl) (by kernel_rfl) (by kernel_rfl) (by kernel_rfl) fun w48 M48 => ?_
        refine KS.p (.bool true) ?_
        refine Kw.fin (Kw.then_normal (wp_ret (Kw.block_ret (Kw.then_ret (Kw.then_ret (Kw.block_ret (Kw.then_ret ?_)))))))
        have hr49 : (loadVar 36 ⟨B1, 0, none⟩).run Try.prog w48 = .ok (.agg #[.int .i64 ((k + 1 : Nat) : Int), .int .i64 (s (getI x 7 5)), .int .i64 (s (getI x 15 5)), .int .i64 0, .int .i64 (s (signI (putI 0#64 0 12 (getI x 20 12)) 12))]) w48 := run_loadVar_row w48 B1 36 36 _ (0, 0) _ (M48.get 3 rfl) Try.underlying36 rfl (by kernel_rfl)
        exact KS.r2 (.bool true) Try.results27 hr49 ⟨by rw [dec_at x k hlt hno (yes_I k hs x (by assumption)), dec_I k x hs], M48.drop⟩
    · skip
      refine wp_seq (Kw.region ?_)
      refine KS.s (Canon.opS .lss 3 (.tmp 16) (.const (.int .i64 69)) (.int .i64 ((k : Nat) : Int)) (.int .i64 69)) (.bool true) (Kw.eqv (v := .bool (decide (((k : Nat) : Int) < (69 : Int)))) (by kernel_rfl) (by rw [decide_eq_true (by omega)])) ?_
      refine Kw.fin (Kw.then_normal (wp_seq ?_))
      refine wp_cond_true (by kernel_rfl) ?_
      refine wp_skip (Kw.then_normal (wp_seq (wp_block (wp_seq (Kw.region ?_)))))
      refine KS.p (.int .i64 ((k : Nat) : Int)) ?_
      refine KS.s (Kw.ixS 81 (.agg rowsCells) (.int .i64 ((k : Nat) : Int))) (.agg #[.string (nm k), .int .u8 67, .int .u64 (u (cd k)), .int .u64 (u (ff k)), .int .u64 (u (ot k))]) (index_sh 67 k hlt hs w) ?_
      refine Kw.alloc #[.string ⟨#[]⟩, .int .u8 0, .int .u64 0, .int .u64 0, .int .u64 0] 59 M (by kernel_rfl) (by kernel_rfl) fun w50 B50 M50 => ?_
      refine KS.p (.int .i64 ((k : Nat) : Int)) ?_
      refine Kw.storeAll 0 59 #[.string (nm k), .int .u8 67, .int .u64 (u (cd k)), .int .u64 (u (ff k)), .int .u64 (u (ot k))] M50 rfl (by kernel_rfl) (by kernel_rfl) (by kernel_rfl) (by kernel_rfl) (by kernel_rfl) fun w51 M51 => ?_
      refine KS.n4 ?_
      refine KS.la 59 B50 _ M51 0 Try.underlying59 ?_
      refine KS.c (.tuple #[.int .u64 (u (putI (putI 0#64 0 7 (cd k)) 12 3 (ff k))), .int .u64 (u (putI (putI 0#64 0 7 18446744073709551615#64) 12 3 18446744073709551615#64))]) 44 #[.agg #[.string (nm k), .int .u8 67, .int .u64 (u (cd k)), .int .u64 (u (ff k)), .int .u64 (u (ot k))]] M51 (fixed_C (nm k) (cd k) (ff k) (ot k) w51) fun w52 M52 => ?_
      refine KS.p (.tuple #[.int .u64 (u (putI (putI 0#64 0 7 (cd k)) 12 3 (ff k))), .int .u64 (u (putI (putI 0#64 0 7 18446744073709551615#64) 12 3 18446744073709551615#64))]) ?_
      refine KS.p (.int .u64 (u (putI (putI 0#64 0 7 (cd k)) 12 3 (ff k)))) ?_
      refine KS.p (.int .u64 (u (putI (putI 0#64 0 7 18446744073709551615#64) 12 3 18446744073709551615#64))) ?_
      refine KS.p (.int .u64 (u (putI (putI 0#64 0 7 (cd k)) 12 3 (ff k)))) ?_
      refine KS.p (.int .u64 (u (putI (putI 0#64 0 7 18446744073709551615#64) 12 3 18446744073709551615#64))) ?_
      refine KS.n5 ?_
      refine KS.p (.int .u64 (u x)) ?_
      refine KS.p (.int .u64 (u (putI (putI 0#64 0 7 18446744073709551615#64) 12 3 18446744073709551615#64))) ?_
      refine KS.s (Canon.opS .and 22 (.tmp 25) (.tmp 26) (.int .u64 (u x)) (.int .u64 (u (putI (putI 0#64 0 7 18446744073709551615#64) 12 3 18446744073709551615#64)))) (.int .u64 (u (x &&& (putI (putI 0#64 0 7 18446744073709551615#64) 12 3 18446744073709551615#64)))) (Kw.eqv (v := .int .u64 (Go.bits .and .u64 ((u x)) ((u (putI (putI 0#64 0 7 18446744073709551615#64) 12 3 18446744073709551615#64))))) (by kernel_rfl) (congrArg (Value.int .u64) (bits_and x (putI (putI 0#64 0 7 18446744073709551615#64) 12 3 18446744073709551615#64)))) ?_
      refine KS.p (.int .u64 (u (putI (putI 0#64 0 7 (cd k)) 12 3 (ff k)))) ?_
      refine KS.s (Canon.opS .neq 22 (.tmp 27) (.tmp 28) (.int .u64 (u (x &&& (putI (putI 0#64 0 7 18446744073709551615#64) 12 3 18446744073709551615#64)))) (.int .u64 (u (putI (putI 0#64 0 7 (cd k)) 12 3 (ff k))))) (.bool ((u (x &&& (putI (putI 0#64 0 7 18446744073709551615#64) 12 3 18446744073709551615#64))) != (u (putI (putI 0#64 0 7 (cd k)) 12 3 (ff k))))) (by kernel_rfl) ?_
      refine KS.n2 ?_
      refine wp_cond_split (t := ((u (x &&& (putI (putI 0#64 0 7 18446744073709551615#64) 12 3 18446744073709551615#64))) != (u (putI (putI 0#64 0 7 (cd k)) 12 3 (ff k))))) (by kernel_rfl) (fun h53 => ?_) (fun h53 => ?_)
      · skip
        refine wp_exit (Kw.then_exit (Kw.block_hit (Kw.then_normal (Kw.region ?_))))
        refine KS.s (Canon.opS .add 3 (.tmp 16) (.const (.int .i64 1)) (.int .i64 ((k : Nat) : Int)) (.int .i64 1)) (.int .i64 ((k + 1 : Nat) : Int)) (Kw.eqv (v := .int .i64 (IntKind.i64.wrap (((k : Nat) : Int) + (1 : Int)))) (by kernel_rfl) (by rw [IntWalk.i64_in _ (by omega)]; rfl)) ?_
        refine KS.p (.int .i64 ((k + 1 : Nat) : Int)) ?_
        refine KS.n2 ?_
        exact ⟨⟨k + 1, y3, .int .i64 ((k : Nat) : Int), .pointer (some ⟨B50, 0, none⟩), .int .u64 (u (putI (putI 0#64 0 7 (cd k)) 12 3 (ff k))), .int .u64 (u (putI (putI 0#64 0 7 18446744073709551615#64) 12 3 18446744073709551615#64)), y9, y10, y11, y12, .bool true, .int .i64 ((k : Nat) : Int), .agg #[.string (nm k), .int .u8 67, .int .u64 (u (cd k)), .int .u64 (u (ff k)), .int .u64 (u (ot k))], .tuple #[.int .u64 (u (putI (putI 0#64 0 7 (cd k)) 12 3 (ff k))), .int .u64 (u (putI (putI 0#64 0 7 18446744073709551615#64) 12 3 18446744073709551615#64))], .agg #[.string (nm k), .int .u8 67, .int .u64 (u (cd k)), .int .u64 (u (ff k)), .int .u64 (u (ot k))], .tuple #[.int .u64 (u (putI (putI 0#64 0 7 (cd k)) 12 3 (ff k))), .int .u64 (u (putI (putI 0#64 0 7 18446744073709551615#64) 12 3 18446744073709551615#64))], .int .u64 (u (putI (putI 0#64 0 7 (cd k)) 12 3 (ff k))), .int .u64 (u (putI (putI 0#64 0 7 18446744073709551615#64) 12 3 18446744073709551615#64)), .int .u64 (u x), .int .u64 (u (putI (putI 0#64 0 7 18446744073709551615#64) 12 3 18446744073709551615#64)), .int .u64 (u (x &&& (putI (putI 0#64 0 7 18446744073709551615#64) 12 3 18446744073709551615#64))), .int .u64 (u (putI (putI 0#64 0 7 (cd k)) 12 3 (ff k))), .bool ((u (x &&& (putI (putI 0#64 0 7 18446744073709551615#64) 12 3 18446744073709551615#64))) != (u (putI (putI 0#64 0 7 (cd k)) 12 3 (ff k)))), y30, y31, y32, y33, y34, y35, y36, y37, y38, y39, y40, y41, y42, y43, y44, y45, y46, y47, y48, y49, y50, y51, y52, y53, y54, y55, y56, y57, y58, y59, y60, .int .i64 ((k + 1 : Nat) : Int), by omega, fun j hj => (by rcases Nat.lt_or_ge j k with h | h; { exact hno j h }; { obtain rfl : j = k := (by omega); exact no_C j hs x (by assumption) }), by kernel_rfl, (Held.mem_tail M52)⟩, Kw.mlt (69 - (k + 1)) (69 - k) (by kernel_rfl) (by kernel_rfl) (by omega)⟩
      · skip
        refine wp_skip (Kw.then_normal (wp_seq (Kw.region ?_)))
        refine KS.p (.int .i64 ((k : Nat) : Int)) ?_
        refine KS.s (Canon.opS .add 3 (.tmp 30) (.const (.int .i64 1)) (.int .i64 ((k : Nat) : Int)) (.int .i64 1)) (.int .i64 ((k + 1 : Nat) : Int)) (Kw.eqv (v := .int .i64 (IntKind.i64.wrap (((k : Nat) : Int) + (1 : Int)))) (by kernel_rfl) (by rw [IntWalk.i64_in _ (by omega)]; rfl)) ?_
        refine KS.p (.pointer (some ⟨B50, 1, none⟩)) ?_
        refine KS.l 5 B50 1 (.int .u8 67) M52 0 Try.underlying5 ?_
        refine Held.callN (fun B => (.agg #[.slice (some ⟨B, 0, none⟩) 1 1, .int .i64 12, .bool false, .int .i64 0])) 42 #[.int .u8 67] #[.int .i64 0, .int .i64 12, .int .i64 20] 89 M52 (by kernel_rfl) (by kernel_rfl) (laid_C w52) fun w54 B54 M54 => ?_
        refine KS.p (.int .u64 (u x)) ?_
        refine KS.c (.int .i64 (s (putI 0#64 0 12 (getI x 20 12)))) 54 #[.agg #[.slice (some ⟨B54, 0, none⟩) 1 1, .int .i64 12, .bool false, .int .i64 0], .int .u64 (u x)] M54 (read_C x w54 B54 (Held.mem_of M54 0 rfl)) fun w55 M55 => ?_
        refine KS.p (.agg #[.int .i64 ((k + 1 : Nat) : Int), .int .i64 0, .int .i64 0, .int .i64 0, .int .i64 (s (putI 0#64 0 12 (getI x 20 12)))]) ?_
        refine Kw.alloc #[.int .i64 0, .int .i64 0, .int .i64 0, .int .i64 0, .int .i64 0] 36 M55 (by kernel_rfl) (by kernel_rfl) fun w56 B56 M56 => ?_
        refine Kw.storeAll 0 36 #[.int .i64 ((k + 1 : Nat) : Int), .int .i64 0, .int .i64 0, .int .i64 0, .int .i64 (s (putI 0#64 0 12 (getI x 20 12)))] M56 rfl (by kernel_rfl) (by kernel_rfl) (by kernel_rfl) (by kernel_rfl) (by kernel_rfl) fun w57 M57 => ?_
        refine KS.n4 ?_
        refine KS.p (.pointer (some ⟨B50, 1, none⟩)) ?_
        refine KS.l 5 B50 1 (.int .u8 67) M57 2 Try.underlying5 ?_
        refine KS.c (.tuple #[.bool true, .bool true, .bool false]) 45 #[.int .u8 67] M57 (has_C w57) fun w58 M58 => ?_
        refine KS.p (.tuple #[.bool true, .bool true, .bool false]) ?_
        refine KS.p (.bool true) ?_
        refine KS.p (.bool true) ?_
        refine KS.p (.bool false) ?_
        refine KS.p (.bool true) ?_
        refine KS.p (.bool true) ?_
        refine KS.p (.bool false) ?_
        refine KS.n5 ?_
        refine KS.p (.bool true) ?_
        refine KS.n2 ?_
        refine wp_cond_true (by kernel_rfl) ?_
        refine Kw.region ?_
        refine KS.p (.int .u64 (u x)) ?_
        refine KS.c (.int .u64 (u (getI x 7 5))) 36 #[.int .u64 (u x), .int .i64 7, .int .i64 5] M58 (get_c x 7 5 w58) fun w59 M59 => ?_
        refine Kw.pure (.int .i64 (s (getI x 7 5))) (by kernel_rfl) (Kw.eqv (v := .int .i64 (IntKind.i64.wrap (u (getI x 7 5)))) (by kernel_rfl) (congrArg (Value.int .i64) (wrapi_u (getI x 7 5)))) ?_
        refine KS.p (.pointer (some ⟨B56, 1, none⟩)) ?_
        refine Kw.storeCell 0 3 1 (.int .i64 (s (getI x 7 5))) #[.int .i64 ((k + 1 : Nat) : Int), .int .i64 (s (getI x 7 5)), .int .i64 0, .int .i64 0, .int .i64 (s (putI 0#64 0 12 (getI x 20 12)))] M59 rfl (by kernel_rfl) (by kernel_rfl) (show 1 < 5 from by decide) (by kernel_rfl) rfl (by kernel_rfl) (by kernel_rfl) fun w60 M60 => ?_
        refine KS.n5 ?_
        refine KS.p (.bool true) ?_
        refine KS.n2 ?_
        refine wp_cond_true (by kernel_rfl) ?_
        refine Kw.region ?_
        refine KS.p (.int .u64 (u x)) ?_
        refine KS.c (.int .u64 (u (getI x 15 5))) 36 #[.int .u64 (u x), .int .i64 15, .int .i64 5] M60 (get_c x 15 5 w60) fun w61 M61 => ?_
        refine Kw.pure (.int .i64 (s (getI x 15 5))) (by kernel_rfl) (Kw.eqv (v := .int .i64 (IntKind.i64.wrap (u (getI x 15 5)))) (by kernel_rfl) (congrArg (Value.int .i64) (wrapi_u (getI x 15 5)))) ?_
        refine KS.p (.pointer (some ⟨B56, 2, none⟩)) ?_
        refine Kw.storeCell 0 3 2 (.int .i64 (s (getI x 15 5))) #[.int .i64 ((k + 1 : Nat) : Int), .int .i64 (s (getI x 7 5)), .int .i64 (s (getI x 15 5)), .int .i64 0, .int .i64 (s (putI 0#64 0 12 (getI x 20 12)))] M61 rfl (by kernel_rfl) (by kernel_rfl) (show 2 < 5 from by decide) (by kernel_rfl) rfl (by kernel_rfl) (by kernel_rfl) fun w62 M62 => ?_
        refine KS.n5 ?_
        refine KS.p (.bool false) ?_
        refine KS.n2 ?_
        refine wp_cond_false (by kernel_rfl) ?_
        refine wp_skip (Kw.then_normal (wp_seq (Kw.region ?_)))
        refine KS.la 36 B56 _ M62 0 Try.underlying36 ?_
        refine Kw.storeAll 3 36 #[.int .i64 ((k + 1 : Nat) : Int), .int .i64 (s (getI x 7 5)), .int .i64 (s (getI x 15 5)), .int .i64 0, .int .i64 (s (putI 0#64 0 12 (getI x 20 12)))] M62 rfl (by kernel_rfl) (by kernel_rfl) (by kernel_rfl) (by kernel_rfl) (by kernel_rfl) fun w63 M63 => ?_
        refine KS.p (.bool true) ?_
        refine Kw.fin (Kw.then_normal (wp_ret (Kw.block_ret (Kw.then_ret (Kw.then_ret (Kw.block_ret (Kw.then_ret ?_)))))))
        have hr64 : (loadVar 36 ⟨B1, 0, none⟩).run Try.prog w63 = .ok (.agg #[.int .i64 ((k + 1 : Nat) : Int), .int .i64 (s (getI x 7 5)), .int .i64 (s (getI x 15 5)), .int .i64 0, .int .i64 (s (putI 0#64 0 12 (getI x 20 12)))]) w63 := run_loadVar_row w63 B1 36 36 _ (0, 0) _ (M63.get 3 rfl) Try.underlying36 rfl (by kernel_rfl)
        exact KS.r2 (.bool true) Try.results27 hr64 ⟨by rw [dec_at x k hlt hno (yes_C k hs x (by assumption)), dec_C k x hs], M63.drop⟩
    · skip
      refine wp_seq (Kw.region ?_)
      refine KS.s (Canon.opS .lss 3 (.tmp 16) (.const (.int .i64 69)) (.int .i64 ((k : Nat) : Int)) (.int .i64 69)) (.bool true) (Kw.eqv (v := .bool (decide (((k : Nat) : Int) < (69 : Int)))) (by kernel_rfl) (by rw [decide_eq_true (by omega)])) ?_
      refine Kw.fin (Kw.then_normal (wp_seq ?_))
      refine wp_cond_true (by kernel_rfl) ?_
      refine wp_skip (Kw.then_normal (wp_seq (wp_block (wp_seq (Kw.region ?_)))))
      refine KS.p (.int .i64 ((k : Nat) : Int)) ?_
      refine KS.s (Kw.ixS 81 (.agg rowsCells) (.int .i64 ((k : Nat) : Int))) (.agg #[.string (nm k), .int .u8 72, .int .u64 (u (cd k)), .int .u64 (u (ff k)), .int .u64 (u (ot k))]) (index_sh 72 k hlt hs w) ?_
      refine Kw.alloc #[.string ⟨#[]⟩, .int .u8 0, .int .u64 0, .int .u64 0, .int .u64 0] 59 M (by kernel_rfl) (by kernel_rfl) fun w65 B65 M65 => ?_
      refine KS.p (.int .i64 ((k : Nat) : Int)) ?_
      refine Kw.storeAll 0 59 #[.string (nm k), .int .u8 72, .int .u64 (u (cd k)), .int .u64 (u (ff k)), .int .u64 (u (ot k))] M65 rfl (by kernel_rfl) (by kernel_rfl) (by kernel_rfl) (by kernel_rfl) (by kernel_rfl) fun w66 M66 => ?_
      refine KS.n4 ?_
      refine KS.la 59 B65 _ M66 0 Try.underlying59 ?_
      refine KS.c (.tuple #[.int .u64 (u (putI (putI (putI 0#64 0 7 (cd k)) 12 3 (ff k)) 26 6 (ot k))), .int .u64 (u (putI (putI (putI 0#64 0 7 18446744073709551615#64) 12 3 18446744073709551615#64) 26 6 18446744073709551615#64))]) 44 #[.agg #[.string (nm k), .int .u8 72, .int .u64 (u (cd k)), .int .u64 (u (ff k)), .int .u64 (u (ot k))]] M66 (fixed_H (nm k) (cd k) (ff k) (ot k) w66) fun w67 M67 => ?_
      refine KS.p (.tuple #[.int .u64 (u (putI (putI (putI 0#64 0 7 (cd k)) 12 3 (ff k)) 26 6 (ot k))), .int .u64 (u (putI (putI (putI 0#64 0 7 18446744073709551615#64) 12 3 18446744073709551615#64) 26 6 18446744073709551615#64))]) ?_
      refine KS.p (.int .u64 (u (putI (putI (putI 0#64 0 7 (cd k)) 12 3 (ff k)) 26 6 (ot k)))) ?_
      refine KS.p (.int .u64 (u (putI (putI (putI 0#64 0 7 18446744073709551615#64) 12 3 18446744073709551615#64) 26 6 18446744073709551615#64))) ?_
      refine KS.p (.int .u64 (u (putI (putI (putI 0#64 0 7 (cd k)) 12 3 (ff k)) 26 6 (ot k)))) ?_
      refine KS.p (.int .u64 (u (putI (putI (putI 0#64 0 7 18446744073709551615#64) 12 3 18446744073709551615#64) 26 6 18446744073709551615#64))) ?_
      refine KS.n5 ?_
      refine KS.p (.int .u64 (u x)) ?_
      refine KS.p (.int .u64 (u (putI (putI (putI 0#64 0 7 18446744073709551615#64) 12 3 18446744073709551615#64) 26 6 18446744073709551615#64))) ?_
      refine KS.s (Canon.opS .and 22 (.tmp 25) (.tmp 26) (.int .u64 (u x)) (.int .u64 (u (putI (putI (putI 0#64 0 7 18446744073709551615#64) 12 3 18446744073709551615#64) 26 6 18446744073709551615#64)))) (.int .u64 (u (x &&& (putI (putI (putI 0#64 0 7 18446744073709551615#64) 12 3 18446744073709551615#64) 26 6 18446744073709551615#64)))) (Kw.eqv (v := .int .u64 (Go.bits .and .u64 ((u x)) ((u (putI (putI (putI 0#64 0 7 18446744073709551615#64) 12 3 18446744073709551615#64) 26 6 18446744073709551615#64))))) (by kernel_rfl) (congrArg (Value.int .u64) (bits_and x (putI (putI (putI 0#64 0 7 18446744073709551615#64) 12 3 18446744073709551615#64) 26 6 18446744073709551615#64)))) ?_
      refine KS.p (.int .u64 (u (putI (putI (putI 0#64 0 7 (cd k)) 12 3 (ff k)) 26 6 (ot k)))) ?_
      refine KS.s (Canon.opS .neq 22 (.tmp 27) (.tmp 28) (.int .u64 (u (x &&& (putI (putI (putI 0#64 0 7 18446744073709551615#64) 12 3 18446744073709551615#64) 26 6 18446744073709551615#64)))) (.int .u64 (u (putI (putI (putI 0#64 0 7 (cd k)) 12 3 (ff k)) 26 6 (ot k))))) (.bool ((u (x &&& (putI (putI (putI 0#64 0 7 18446744073709551615#64) 12 3 18446744073709551615#64) 26 6 18446744073709551615#64))) != (u (putI (putI (putI 0#64 0 7 (cd k)) 12 3 (ff k)) 26 6 (ot k))))) (by kernel_rfl) ?_
      refine KS.n2 ?_
      refine wp_cond_split (t := ((u (x &&& (putI (putI (putI 0#64 0 7 18446744073709551615#64) 12 3 18446744073709551615#64) 26 6 18446744073709551615#64))) != (u (putI (putI (putI 0#64 0 7 (cd k)) 12 3 (ff k)) 26 6 (ot k))))) (by kernel_rfl) (fun h68 => ?_) (fun h68 => ?_)
      · skip
        refine wp_exit (Kw.then_exit (Kw.block_hit (Kw.then_normal (Kw.region ?_))))
        refine KS.s (Canon.opS .add 3 (.tmp 16) (.const (.int .i64 1)) (.int .i64 ((k : Nat) : Int)) (.int .i64 1)) (.int .i64 ((k + 1 : Nat) : Int)) (Kw.eqv (v := .int .i64 (IntKind.i64.wrap (((k : Nat) : Int) + (1 : Int)))) (by kernel_rfl) (by rw [IntWalk.i64_in _ (by omega)]; rfl)) ?_
        refine KS.p (.int .i64 ((k + 1 : Nat) : Int)) ?_
        refine KS.n2 ?_
        exact ⟨⟨k + 1, y3, .int .i64 ((k : Nat) : Int), .pointer (some ⟨B65, 0, none⟩), .int .u64 (u (putI (putI (putI 0#64 0 7 (cd k)) 12 3 (ff k)) 26 6 (ot k))), .int .u64 (u (putI (putI (putI 0#64 0 7 18446744073709551615#64) 12 3 18446744073709551615#64) 26 6 18446744073709551615#64)), y9, y10, y11, y12, .bool true, .int .i64 ((k : Nat) : Int), .agg #[.string (nm k), .int .u8 72, .int .u64 (u (cd k)), .int .u64 (u (ff k)), .int .u64 (u (ot k))], .tuple #[.int .u64 (u (putI (putI (putI 0#64 0 7 (cd k)) 12 3 (ff k)) 26 6 (ot k))), .int .u64 (u (putI (putI (putI 0#64 0 7 18446744073709551615#64) 12 3 18446744073709551615#64) 26 6 18446744073709551615#64))], .agg #[.string (nm k), .int .u8 72, .int .u64 (u (cd k)), .int .u64 (u (ff k)), .int .u64 (u (ot k))], .tuple #[.int .u64 (u (putI (putI (putI 0#64 0 7 (cd k)) 12 3 (ff k)) 26 6 (ot k))), .int .u64 (u (putI (putI (putI 0#64 0 7 18446744073709551615#64) 12 3 18446744073709551615#64) 26 6 18446744073709551615#64))], .int .u64 (u (putI (putI (putI 0#64 0 7 (cd k)) 12 3 (ff k)) 26 6 (ot k))), .int .u64 (u (putI (putI (putI 0#64 0 7 18446744073709551615#64) 12 3 18446744073709551615#64) 26 6 18446744073709551615#64)), .int .u64 (u x), .int .u64 (u (putI (putI (putI 0#64 0 7 18446744073709551615#64) 12 3 18446744073709551615#64) 26 6 18446744073709551615#64)), .int .u64 (u (x &&& (putI (putI (putI 0#64 0 7 18446744073709551615#64) 12 3 18446744073709551615#64) 26 6 18446744073709551615#64))), .int .u64 (u (putI (putI (putI 0#64 0 7 (cd k)) 12 3 (ff k)) 26 6 (ot k))), .bool ((u (x &&& (putI (putI (putI 0#64 0 7 18446744073709551615#64) 12 3 18446744073709551615#64) 26 6 18446744073709551615#64))) != (u (putI (putI (putI 0#64 0 7 (cd k)) 12 3 (ff k)) 26 6 (ot k)))), y30, y31, y32, y33, y34, y35, y36, y37, y38, y39, y40, y41, y42, y43, y44, y45, y46, y47, y48, y49, y50, y51, y52, y53, y54, y55, y56, y57, y58, y59, y60, .int .i64 ((k + 1 : Nat) : Int), by omega, fun j hj => (by rcases Nat.lt_or_ge j k with h | h; { exact hno j h }; { obtain rfl : j = k := (by omega); exact no_H j hs x (by assumption) }), by kernel_rfl, (Held.mem_tail M67)⟩, Kw.mlt (69 - (k + 1)) (69 - k) (by kernel_rfl) (by kernel_rfl) (by omega)⟩
      · skip
        refine wp_skip (Kw.then_normal (wp_seq (Kw.region ?_)))
        refine KS.p (.int .i64 ((k : Nat) : Int)) ?_
        refine KS.s (Canon.opS .add 3 (.tmp 30) (.const (.int .i64 1)) (.int .i64 ((k : Nat) : Int)) (.int .i64 1)) (.int .i64 ((k + 1 : Nat) : Int)) (Kw.eqv (v := .int .i64 (IntKind.i64.wrap (((k : Nat) : Int) + (1 : Int)))) (by kernel_rfl) (by rw [IntWalk.i64_in _ (by omega)]; rfl)) ?_
        refine KS.p (.pointer (some ⟨B65, 1, none⟩)) ?_
        refine KS.l 5 B65 1 (.int .u8 72) M67 0 Try.underlying5 ?_
        refine Held.callN (fun B => (.agg #[.slice (some ⟨B, 0, none⟩) 1 1, .int .i64 6, .bool false, .int .i64 0])) 42 #[.int .u8 72] #[.int .i64 0, .int .i64 6, .int .i64 20] 89 M67 (by kernel_rfl) (by kernel_rfl) (laid_H w67) fun w69 B69 M69 => ?_
        refine KS.p (.int .u64 (u x)) ?_
        refine KS.c (.int .i64 (s (putI 0#64 0 6 (getI x 20 6)))) 54 #[.agg #[.slice (some ⟨B69, 0, none⟩) 1 1, .int .i64 6, .bool false, .int .i64 0], .int .u64 (u x)] M69 (read_H x w69 B69 (Held.mem_of M69 0 rfl)) fun w70 M70 => ?_
        refine KS.p (.agg #[.int .i64 ((k + 1 : Nat) : Int), .int .i64 0, .int .i64 0, .int .i64 0, .int .i64 (s (putI 0#64 0 6 (getI x 20 6)))]) ?_
        refine Kw.alloc #[.int .i64 0, .int .i64 0, .int .i64 0, .int .i64 0, .int .i64 0] 36 M70 (by kernel_rfl) (by kernel_rfl) fun w71 B71 M71 => ?_
        refine Kw.storeAll 0 36 #[.int .i64 ((k + 1 : Nat) : Int), .int .i64 0, .int .i64 0, .int .i64 0, .int .i64 (s (putI 0#64 0 6 (getI x 20 6)))] M71 rfl (by kernel_rfl) (by kernel_rfl) (by kernel_rfl) (by kernel_rfl) (by kernel_rfl) fun w72 M72 => ?_
        refine KS.n4 ?_
        refine KS.p (.pointer (some ⟨B65, 1, none⟩)) ?_
        refine KS.l 5 B65 1 (.int .u8 72) M72 2 Try.underlying5 ?_
        refine KS.c (.tuple #[.bool true, .bool true, .bool false]) 45 #[.int .u8 72] M72 (has_H w72) fun w73 M73 => ?_
        refine KS.p (.tuple #[.bool true, .bool true, .bool false]) ?_
        refine KS.p (.bool true) ?_
        refine KS.p (.bool true) ?_
        refine KS.p (.bool false) ?_
        refine KS.p (.bool true) ?_
        refine KS.p (.bool true) ?_
        refine KS.p (.bool false) ?_
        refine KS.n5 ?_
        refine KS.p (.bool true) ?_
        refine KS.n2 ?_
        refine wp_cond_true (by kernel_rfl) ?_
        refine Kw.region ?_
        refine KS.p (.int .u64 (u x)) ?_
        refine KS.c (.int .u64 (u (getI x 7 5))) 36 #[.int .u64 (u x), .int .i64 7, .int .i64 5] M73 (get_c x 7 5 w73) fun w74 M74 => ?_
        refine Kw.pure (.int .i64 (s (getI x 7 5))) (by kernel_rfl) (Kw.eqv (v := .int .i64 (IntKind.i64.wrap (u (getI x 7 5)))) (by kernel_rfl) (congrArg (Value.int .i64) (wrapi_u (getI x 7 5)))) ?_
        refine KS.p (.pointer (some ⟨B71, 1, none⟩)) ?_
        refine Kw.storeCell 0 3 1 (.int .i64 (s (getI x 7 5))) #[.int .i64 ((k + 1 : Nat) : Int), .int .i64 (s (getI x 7 5)), .int .i64 0, .int .i64 0, .int .i64 (s (putI 0#64 0 6 (getI x 20 6)))] M74 rfl (by kernel_rfl) (by kernel_rfl) (show 1 < 5 from by decide) (by kernel_rfl) rfl (by kernel_rfl) (by kernel_rfl) fun w75 M75 => ?_
        refine KS.n5 ?_
        refine KS.p (.bool true) ?_
        refine KS.n2 ?_
        refine wp_cond_true (by kernel_rfl) ?_
        refine Kw.region ?_
        refine KS.p (.int .u64 (u x)) ?_
        refine KS.c (.int .u64 (u (getI x 15 5))) 36 #[.int .u64 (u x), .int .i64 15, .int .i64 5] M75 (get_c x 15 5 w75) fun w76 M76 => ?_
        refine Kw.pure (.int .i64 (s (getI x 15 5))) (by kernel_rfl) (Kw.eqv (v := .int .i64 (IntKind.i64.wrap (u (getI x 15 5)))) (by kernel_rfl) (congrArg (Value.int .i64) (wrapi_u (getI x 15 5)))) ?_
        refine KS.p (.pointer (some ⟨B71, 2, none⟩)) ?_
        refine Kw.storeCell 0 3 2 (.int .i64 (s (getI x 15 5))) #[.int .i64 ((k + 1 : Nat) : Int), .int .i64 (s (getI x 7 5)), .int .i64 (s (getI x 15 5)), .int .i64 0, .int .i64 (s (putI 0#64 0 6 (getI x 20 6)))] M76 rfl (by kernel_rfl) (by kernel_rfl) (show 2 < 5 from by decide) (by kernel_rfl) rfl (by kernel_rfl) (by kernel_rfl) fun w77 M77 => ?_
        refine KS.n5 ?_
        refine KS.p (.bool false) ?_
        refine KS.n2 ?_
        refine wp_cond_false (by kernel_rfl) ?_
        refine wp_skip (Kw.then_normal (wp_seq (Kw.region ?_)))
        refine KS.la 36 B71 _ M77 0 Try.underlying36 ?_
        refine Kw.storeAll 3 36 #[.int .i64 ((k + 1 : Nat) : Int), .int .i64 (s (getI x 7 5)), .int .i64 (s (getI x 15 5)), .int .i64 0, .int .i64 (s (putI 0#64 0 6 (getI x 20 6)))] M77 rfl (by kernel_rfl) (by kernel_rfl) (by kernel_rfl) (by kernel_rfl) (by kernel_rfl) fun w78 M78 => ?_
        refine KS.p (.bool true) ?_
        refine Kw.fin (Kw.then_normal (wp_ret (Kw.block_ret (Kw.then_ret (Kw.then_ret (Kw.block_ret (Kw.then_ret ?_)))))))
        have hr79 : (loadVar 36 ⟨B1, 0, none⟩).run Try.prog w78 = .ok (.agg #[.int .i64 ((k + 1 : Nat) : Int), .int .i64 (s (getI x 7 5)), .int .i64 (s (getI x 15 5)), .int .i64 0, .int .i64 (s (putI 0#64 0 6 (getI x 20 6)))]) w78 := run_loadVar_row w78 B1 36 36 _ (0, 0) _ (M78.get 3 rfl) Try.underlying36 rfl (by kernel_rfl)
        exact KS.r2 (.bool true) Try.results27 hr79 ⟨by rw [dec_at x k hlt hno (yes_H k hs x (by assumption)), dec_H k x hs], M78.drop⟩
    · skip
      refine wp_seq (Kw.region ?_)
      refine KS.s (Canon.opS .lss 3 (.tmp 16) (.const (.int .i64 69)) (.int .i64 ((k : Nat) : Int)) (.int .i64 69)) (.bool true) (Kw.eqv (v := .bool (decide (((k : Nat) : Int) < (69 : Int)))) (by kernel_rfl) (by rw [decide_eq_true (by omega)])) ?_
      refine Kw.fin (Kw.then_normal (wp_seq ?_))
      refine wp_cond_true (by kernel_rfl) ?_
      refine wp_skip (Kw.then_normal (wp_seq (wp_block (wp_seq (Kw.region ?_)))))
      refine KS.p (.int .i64 ((k : Nat) : Int)) ?_
      refine KS.s (Kw.ixS 81 (.agg rowsCells) (.int .i64 ((k : Nat) : Int))) (.agg #[.string (nm k), .int .u8 83, .int .u64 (u (cd k)), .int .u64 (u (ff k)), .int .u64 (u (ot k))]) (index_sh 83 k hlt hs w) ?_
      refine Kw.alloc #[.string ⟨#[]⟩, .int .u8 0, .int .u64 0, .int .u64 0, .int .u64 0] 59 M (by kernel_rfl) (by kernel_rfl) fun w80 B80 M80 => ?_
      refine KS.p (.int .i64 ((k : Nat) : Int)) ?_
      refine Kw.storeAll 0 59 #[.string (nm k), .int .u8 83, .int .u64 (u (cd k)), .int .u64 (u (ff k)), .int .u64 (u (ot k))] M80 rfl (by kernel_rfl) (by kernel_rfl) (by kernel_rfl) (by kernel_rfl) (by kernel_rfl) fun w81 M81 => ?_
      refine KS.n4 ?_
      refine KS.la 59 B80 _ M81 0 Try.underlying59 ?_
      refine KS.c (.tuple #[.int .u64 (u (putI (putI 0#64 0 7 (cd k)) 12 3 (ff k))), .int .u64 (u (putI (putI 0#64 0 7 18446744073709551615#64) 12 3 18446744073709551615#64))]) 44 #[.agg #[.string (nm k), .int .u8 83, .int .u64 (u (cd k)), .int .u64 (u (ff k)), .int .u64 (u (ot k))]] M81 (fixed_S (nm k) (cd k) (ff k) (ot k) w81) fun w82 M82 => ?_
      refine KS.p (.tuple #[.int .u64 (u (putI (putI 0#64 0 7 (cd k)) 12 3 (ff k))), .int .u64 (u (putI (putI 0#64 0 7 18446744073709551615#64) 12 3 18446744073709551615#64))]) ?_
      refine KS.p (.int .u64 (u (putI (putI 0#64 0 7 (cd k)) 12 3 (ff k)))) ?_
      refine KS.p (.int .u64 (u (putI (putI 0#64 0 7 18446744073709551615#64) 12 3 18446744073709551615#64))) ?_
      refine KS.p (.int .u64 (u (putI (putI 0#64 0 7 (cd k)) 12 3 (ff k)))) ?_
      refine KS.p (.int .u64 (u (putI (putI 0#64 0 7 18446744073709551615#64) 12 3 18446744073709551615#64))) ?_
      refine KS.n5 ?_
      refine KS.p (.int .u64 (u x)) ?_
      refine KS.p (.int .u64 (u (putI (putI 0#64 0 7 18446744073709551615#64) 12 3 18446744073709551615#64))) ?_
      refine KS.s (Canon.opS .and 22 (.tmp 25) (.tmp 26) (.int .u64 (u x)) (.int .u64 (u (putI (putI 0#64 0 7 18446744073709551615#64) 12 3 18446744073709551615#64)))) (.int .u64 (u (x &&& (putI (putI 0#64 0 7 18446744073709551615#64) 12 3 18446744073709551615#64)))) (Kw.eqv (v := .int .u64 (Go.bits .and .u64 ((u x)) ((u (putI (putI 0#64 0 7 18446744073709551615#64) 12 3 18446744073709551615#64))))) (by kernel_rfl) (congrArg (Value.int .u64) (bits_and x (putI (putI 0#64 0 7 18446744073709551615#64) 12 3 18446744073709551615#64)))) ?_
      refine KS.p (.int .u64 (u (putI (putI 0#64 0 7 (cd k)) 12 3 (ff k)))) ?_
      refine KS.s (Canon.opS .neq 22 (.tmp 27) (.tmp 28) (.int .u64 (u (x &&& (putI (putI 0#64 0 7 18446744073709551615#64) 12 3 18446744073709551615#64)))) (.int .u64 (u (putI (putI 0#64 0 7 (cd k)) 12 3 (ff k))))) (.bool ((u (x &&& (putI (putI 0#64 0 7 18446744073709551615#64) 12 3 18446744073709551615#64))) != (u (putI (putI 0#64 0 7 (cd k)) 12 3 (ff k))))) (by kernel_rfl) ?_
      refine KS.n2 ?_
      refine wp_cond_split (t := ((u (x &&& (putI (putI 0#64 0 7 18446744073709551615#64) 12 3 18446744073709551615#64))) != (u (putI (putI 0#64 0 7 (cd k)) 12 3 (ff k))))) (by kernel_rfl) (fun h83 => ?_) (fun h83 => ?_)
      · skip
        refine wp_exit (Kw.then_exit (Kw.block_hit (Kw.then_normal (Kw.region ?_))))
        refine KS.s (Canon.opS .add 3 (.tmp 16) (.const (.int .i64 1)) (.int .i64 ((k : Nat) : Int)) (.int .i64 1)) (.int .i64 ((k + 1 : Nat) : Int)) (Kw.eqv (v := .int .i64 (IntKind.i64.wrap (((k : Nat) : Int) + (1 : Int)))) (by kernel_rfl) (by rw [IntWalk.i64_in _ (by omega)]; rfl)) ?_
        refine KS.p (.int .i64 ((k + 1 : Nat) : Int)) ?_
        refine KS.n2 ?_
        exact ⟨⟨k + 1, y3, .int .i64 ((k : Nat) : Int), .pointer (some ⟨B80, 0, none⟩), .int .u64 (u (putI (putI 0#64 0 7 (cd k)) 12 3 (ff k))), .int .u64 (u (putI (putI 0#64 0 7 18446744073709551615#64) 12 3 18446744073709551615#64)), y9, y10, y11, y12, .bool true, .int .i64 ((k : Nat) : Int), .agg #[.string (nm k), .int .u8 83, .int .u64 (u (cd k)), .int .u64 (u (ff k)), .int .u64 (u (ot k))], .tuple #[.int .u64 (u (putI (putI 0#64 0 7 (cd k)) 12 3 (ff k))), .int .u64 (u (putI (putI 0#64 0 7 18446744073709551615#64) 12 3 18446744073709551615#64))], .agg #[.string (nm k), .int .u8 83, .int .u64 (u (cd k)), .int .u64 (u (ff k)), .int .u64 (u (ot k))], .tuple #[.int .u64 (u (putI (putI 0#64 0 7 (cd k)) 12 3 (ff k))), .int .u64 (u (putI (putI 0#64 0 7 18446744073709551615#64) 12 3 18446744073709551615#64))], .int .u64 (u (putI (putI 0#64 0 7 (cd k)) 12 3 (ff k))), .int .u64 (u (putI (putI 0#64 0 7 18446744073709551615#64) 12 3 18446744073709551615#64)), .int .u64 (u x), .int .u64 (u (putI (putI 0#64 0 7 18446744073709551615#64) 12 3 18446744073709551615#64)), .int .u64 (u (x &&& (putI (putI 0#64 0 7 18446744073709551615#64) 12 3 18446744073709551615#64))), .int .u64 (u (putI (putI 0#64 0 7 (cd k)) 12 3 (ff k))), .bool ((u (x &&& (putI (putI 0#64 0 7 18446744073709551615#64) 12 3 18446744073709551615#64))) != (u (putI (putI 0#64 0 7 (cd k)) 12 3 (ff k)))), y30, y31, y32, y33, y34, y35, y36, y37, y38, y39, y40, y41, y42, y43, y44, y45, y46, y47, y48, y49, y50, y51, y52, y53, y54, y55, y56, y57, y58, y59, y60, .int .i64 ((k + 1 : Nat) : Int), by omega, fun j hj => (by rcases Nat.lt_or_ge j k with h | h; { exact hno j h }; { obtain rfl : j = k := (by omega); exact no_S j hs x (by assumption) }), by kernel_rfl, (Held.mem_tail M82)⟩, Kw.mlt (69 - (k + 1)) (69 - k) (by kernel_rfl) (by kernel_rfl) (by omega)⟩
      · skip
        refine wp_skip (Kw.then_normal (wp_seq (Kw.region ?_)))
        refine KS.p (.int .i64 ((k : Nat) : Int)) ?_
        refine KS.s (Canon.opS .add 3 (.tmp 30) (.const (.int .i64 1)) (.int .i64 ((k : Nat) : Int)) (.int .i64 1)) (.int .i64 ((k + 1 : Nat) : Int)) (Kw.eqv (v := .int .i64 (IntKind.i64.wrap (((k : Nat) : Int) + (1 : Int)))) (by kernel_rfl) (by rw [IntWalk.i64_in _ (by omega)]; rfl)) ?_
        refine KS.p (.pointer (some ⟨B80, 1, none⟩)) ?_
        refine KS.l 5 B80 1 (.int .u8 83) M82 0 Try.underlying5 ?_
        refine Held.callN (fun B => (.agg #[.slice (some ⟨B, 0, none⟩) 2 2, .int .i64 12, .bool true, .int .i64 0])) 42 #[.int .u8 83] #[.int .i64 0, .int .i64 5, .int .i64 7, .int .i64 5, .int .i64 7, .int .i64 25] 89 M82 (by kernel_rfl) (by kernel_rfl) (laid_S w82) fun w84 B84 M84 => ?_
        refine KS.p (.int .u64 (u x)) ?_
        refine KS.c (.int .i64 (s (signI (putI (putI 0#64 0 5 (getI x 7 5)) 5 7 (getI x 25 7)) 12))) 54 #[.agg #[.slice (some ⟨B84, 0, none⟩) 2 2, .int .i64 12, .bool true, .int .i64 0], .int .u64 (u x)] M84 (read_S x w84 B84 (Held.mem_of M84 0 rfl)) fun w85 M85 => ?_
        refine KS.p (.agg #[.int .i64 ((k + 1 : Nat) : Int), .int .i64 0, .int .i64 0, .int .i64 0, .int .i64 (s (signI (putI (putI 0#64 0 5 (getI x 7 5)) 5 7 (getI x 25 7)) 12))]) ?_
        refine Kw.alloc #[.int .i64 0, .int .i64 0, .int .i64 0, .int .i64 0, .int .i64 0] 36 M85 (by kernel_rfl) (by kernel_rfl) fun w86 B86 M86 => ?_
        refine Kw.storeAll 0 36 #[.int .i64 ((k + 1 : Nat) : Int), .int .i64 0, .int .i64 0, .int .i64 0, .int .i64 (s (signI (putI (putI 0#64 0 5 (getI x 7 5)) 5 7 (getI x 25 7)) 12))] M86 rfl (by kernel_rfl) (by kernel_rfl) (by kernel_rfl) (by kernel_rfl) (by kernel_rfl) fun w87 M87 => ?_
        refine KS.n4 ?_
        refine KS.p (.pointer (some ⟨B80, 1, none⟩)) ?_
        refine KS.l 5 B80 1 (.int .u8 83) M87 2 Try.underlying5 ?_
        refine KS.c (.tuple #[.bool false, .bool true, .bool true]) 45 #[.int .u8 83] M87 (has_S w87) fun w88 M88 => ?_
        refine KS.p (.tuple #[.bool false, .bool true, .bool true]) ?_
        refine KS.p (.bool false) ?_
        refine KS.p (.bool true) ?_
        refine KS.p (.bool true) ?_
        refine KS.p (.bool false) ?_
        refine KS.p (.bool true) ?_
        refine KS.p (.bool true) ?_
        refine KS.n5 ?_
        refine KS.p (.bool false) ?_
        refine KS.n2 ?_
        refine wp_cond_false (by kernel_rfl) ?_
        refine wp_skip (Kw.then_normal (wp_seq (wp_seq (Kw.region ?_))))
        refine KS.p (.bool true) ?_
        refine KS.n2 ?_
        refine wp_cond_true (by kernel_rfl) ?_
        refine Kw.region ?_
        refine KS.p (.int .u64 (u x)) ?_
        refine KS.c (.int .u64 (u (getI x 15 5))) 36 #[.int .u64 (u x), .int .i64 15, .int .i64 5] M88 (get_c x 15 5 w88) fun w89 M89 => ?_
        refine Kw.pure (.int .i64 (s (getI x 15 5))) (by kernel_rfl) (Kw.eqv (v := .int .i64 (IntKind.i64.wrap (u (getI x 15 5)))) (by kernel_rfl) (congrArg (Value.int .i64) (wrapi_u (getI x 15 5)))) ?_
        refine KS.p (.pointer (some ⟨B86, 2, none⟩)) ?_
        refine Kw.storeCell 0 3 2 (.int .i64 (s (getI x 15 5))) #[.int .i64 ((k + 1 : Nat) : Int), .int .i64 0, .int .i64 (s (getI x 15 5)), .int .i64 0, .int .i64 (s (signI (putI (putI 0#64 0 5 (getI x 7 5)) 5 7 (getI x 25 7)) 12))] M89 rfl (by kernel_rfl) (by kernel_rfl) (show 2 < 5 from by decide) (by kernel_rfl) rfl (by kernel_rfl) (by kernel_rfl) fun w90 M90 => ?_
        refine KS.n5 ?_
        refine KS.p (.bool true) ?_
        refine KS.n2 ?_
        refine wp_cond_true (by kernel_rfl) ?_
        refine Kw.region ?_
        refine KS.p (.int .u64 (u x)) ?_
        refine KS.c (.int .u64 (u (getI x 20 5))) 36 #[.int .u64 (u x), .int .i64 20, .int .i64 5] M90 (get_c x 20 5 w90) fun w91 M91 => ?_
        refine Kw.pure (.int .i64 (s (getI x 20 5))) (by kernel_rfl) (Kw.eqv (v := .int .i64 (IntKind.i64.wrap (u (getI x 20 5)))) (by kernel_rfl) (congrArg (Value.int .i64) (wrapi_u (getI x 20 5)))) ?_
        refine KS.p (.pointer (some ⟨B86, 3, none⟩)) ?_
        refine Kw.storeCell 0 3 3 (.int .i64 (s (getI x 20 5))) #[.int .i64 ((k + 1 : Nat) : Int), .int .i64 0, .int .i64 (s (getI x 15 5)), .int .i64 (s (getI x 20 5)), .int .i64 (s (signI (putI (putI 0#64 0 5 (getI x 7 5)) 5 7 (getI x 25 7)) 12))] M91 rfl (by kernel_rfl) (by kernel_rfl) (show 3 < 5 from by decide) (by kernel_rfl) rfl (by kernel_rfl) (by kernel_rfl) fun w92 M92 => ?_
        refine KS.n4 ?_
        refine KS.la 36 B86 _ M92 0 Try.underlying36 ?_
        refine Kw.storeAll 3 36 #[.int .i64 ((k + 1 : Nat) : Int), .int .i64 0, .int .i64 (s (getI x 15 5)), .int .i64 (s (getI x 20 5)), .int .i64 (s (signI (putI (putI 0#64 0 5 (getI x 7 5)) 5 7 (getI x 25 7)) 12))] M92 rfl (by kernel_rfl) (by kernel_rfl) (by kernel_rfl) (by kernel_rfl) (by kernel_rfl) fun w93 M93 => ?_
        refine KS.p (.bool true) ?_
        refine Kw.fin (Kw.then_normal (wp_ret (Kw.block_ret (Kw.then_ret (Kw.then_ret (Kw.block_ret (Kw.then_ret ?_)))))))
        have hr94 : (loadVar 36 ⟨B1, 0, none⟩).run Try.prog w93 = .ok (.agg #[.int .i64 ((k + 1 : Nat) : Int), .int .i64 0, .int .i64 (s (getI x 15 5)), .int .i64 (s (getI x 20 5)), .int .i64 (s (signI (putI (putI 0#64 0 5 (getI x 7 5)) 5 7 (getI x 25 7)) 12))]) w93 := run_loadVar_row w93 B1 36 36 _ (0, 0) _ (M93.get 3 rfl) Try.underlying36 rfl (by kernel_rfl)
        exact KS.r2 (.bool true) Try.results27 hr94 ⟨by rw [dec_at x k hlt hno (yes_S k hs x (by assumption)), dec_S k x hs], M93.drop⟩
    · skip
      refine wp_seq (Kw.region ?_)
      refine KS.s (Canon.opS .lss 3 (.tmp 16) (.const (.int .i64 69)) (.int .i64 ((k : Nat) : Int)) (.int .i64 69)) (.bool true) (Kw.eqv (v := .bool (decide (((k : Nat) : Int) < (69 : Int)))) (by kernel_rfl) (by rw [decide_eq_true (by omega)])) ?_
      refine Kw.fin (Kw.then_normal (wp_seq ?_))
      refine wp_cond_true (by kernel_rfl) ?_
      refine wp_skip (Kw.then_normal (wp_seq (wp_block (wp_seq (Kw.region ?_)))))
      refine KS.p (.int .i64 ((k : Nat) : Int)) ?_
      refine KS.s (Kw.ixS 81 (.agg rowsCells) (.int .i64 ((k : Nat) : Int))) (.agg #[.string (nm k), .int .u8 66, .int .u64 (u (cd k)), .int .u64 (u (ff k)), .int .u64 (u (ot k))]) (index_sh 66 k hlt hs w) ?_
      refine Kw.alloc #[.string ⟨#[]⟩, .int .u8 0, .int .u64 0, .int .u64 0, .int .u64 0] 59 M (by kernel_rfl) (by kernel_rfl) fun w95 B95 M95 => ?_
      refine KS.p (.int .i64 ((k : Nat) : Int)) ?_
      refine Kw.storeAll 0 59 #[.string (nm k), .int .u8 66, .int .u64 (u (cd k)), .int .u64 (u (ff k)), .int .u64 (u (ot k))] M95 rfl (by kernel_rfl) (by kernel_rfl) (by kernel_rfl) (by kernel_rfl) (by kernel_rfl) fun w96 M96 => ?_
      refine KS.n4 ?_
      refine KS.la 59 B95 _ M96 0 Try.underlying59 ?_
      refine KS.c (.tuple #[.int .u64 (u (putI (putI 0#64 0 7 (cd k)) 12 3 (ff k))), .int .u64 (u (putI (putI 0#64 0 7 18446744073709551615#64) 12 3 18446744073709551615#64))]) 44 #[.agg #[.string (nm k), .int .u8 66, .int .u64 (u (cd k)), .int .u64 (u (ff k)), .int .u64 (u (ot k))]] M96 (fixed_B (nm k) (cd k) (ff k) (ot k) w96) fun w97 M97 => ?_
      refine KS.p (.tuple #[.int .u64 (u (putI (putI 0#64 0 7 (cd k)) 12 3 (ff k))), .int .u64 (u (putI (putI 0#64 0 7 18446744073709551615#64) 12 3 18446744073709551615#64))]) ?_
      refine KS.p (.int .u64 (u (putI (putI 0#64 0 7 (cd k)) 12 3 (ff k)))) ?_
      refine KS.p (.int .u64 (u (putI (putI 0#64 0 7 18446744073709551615#64) 12 3 18446744073709551615#64))) ?_
      refine KS.p (.int .u64 (u (putI (putI 0#64 0 7 (cd k)) 12 3 (ff k)))) ?_
      refine KS.p (.int .u64 (u (putI (putI 0#64 0 7 18446744073709551615#64) 12 3 18446744073709551615#64))) ?_
      refine KS.n5 ?_
      refine KS.p (.int .u64 (u x)) ?_
      refine KS.p (.int .u64 (u (putI (putI 0#64 0 7 18446744073709551615#64) 12 3 18446744073709551615#64))) ?_
      refine KS.s (Canon.opS .and 22 (.tmp 25) (.tmp 26) (.int .u64 (u x)) (.int .u64 (u (putI (putI 0#64 0 7 18446744073709551615#64) 12 3 18446744073709551615#64)))) (.int .u64 (u (x &&& (putI (putI 0#64 0 7 18446744073709551615#64) 12 3 18446744073709551615#64)))) (Kw.eqv (v := .int .u64 (Go.bits .and .u64 ((u x)) ((u (putI (putI 0#64 0 7 18446744073709551615#64) 12 3 18446744073709551615#64))))) (by kernel_rfl) (congrArg (Value.int .u64) (bits_and x (putI (putI 0#64 0 7 18446744073709551615#64) 12 3 18446744073709551615#64)))) ?_
      refine KS.p (.int .u64 (u (putI (putI 0#64 0 7 (cd k)) 12 3 (ff k)))) ?_
      refine KS.s (Canon.opS .neq 22 (.tmp 27) (.tmp 28) (.int .u64 (u (x &&& (putI (putI 0#64 0 7 18446744073709551615#64) 12 3 18446744073709551615#64)))) (.int .u64 (u (putI (putI 0#64 0 7 (cd k)) 12 3 (ff k))))) (.bool ((u (x &&& (putI (putI 0#64 0 7 18446744073709551615#64) 12 3 18446744073709551615#64))) != (u (putI (putI 0#64 0 7 (cd k)) 12 3 (ff k))))) (by kernel_rfl) ?_
      refine KS.n2 ?_
      refine wp_cond_split (t := ((u (x &&& (putI (putI 0#64 0 7 18446744073709551615#64) 12 3 18446744073709551615#64))) != (u (putI (putI 0#64 0 7 (cd k)) 12 3 (ff k))))) (by kernel_rfl) (fun h98 => ?_) (fun h98 => ?_)
      · skip
        refine wp_exit (Kw.then_exit (Kw.block_hit (Kw.then_normal (Kw.region ?_))))
        refine KS.s (Canon.opS .add 3 (.tmp 16) (.const (.int .i64 1)) (.int .i64 ((k : Nat) : Int)) (.int .i64 1)) (.int .i64 ((k + 1 : Nat) : Int)) (Kw.eqv (v := .int .i64 (IntKind.i64.wrap (((k : Nat) : Int) + (1 : Int)))) (by kernel_rfl) (by rw [IntWalk.i64_in _ (by omega)]; rfl)) ?_
        refine KS.p (.int .i64 ((k + 1 : Nat) : Int)) ?_
        refine KS.n2 ?_
        exact ⟨⟨k + 1, y3, .int .i64 ((k : Nat) : Int), .pointer (some ⟨B95, 0, none⟩), .int .u64 (u (putI (putI 0#64 0 7 (cd k)) 12 3 (ff k))), .int .u64 (u (putI (putI 0#64 0 7 18446744073709551615#64) 12 3 18446744073709551615#64)), y9, y10, y11, y12, .bool true, .int .i64 ((k : Nat) : Int), .agg #[.string (nm k), .int .u8 66, .int .u64 (u (cd k)), .int .u64 (u (ff k)), .int .u64 (u (ot k))], .tuple #[.int .u64 (u (putI (putI 0#64 0 7 (cd k)) 12 3 (ff k))), .int .u64 (u (putI (putI 0#64 0 7 18446744073709551615#64) 12 3 18446744073709551615#64))], .agg #[.string (nm k), .int .u8 66, .int .u64 (u (cd k)), .int .u64 (u (ff k)), .int .u64 (u (ot k))], .tuple #[.int .u64 (u (putI (putI 0#64 0 7 (cd k)) 12 3 (ff k))), .int .u64 (u (putI (putI 0#64 0 7 18446744073709551615#64) 12 3 18446744073709551615#64))], .int .u64 (u (putI (putI 0#64 0 7 (cd k)) 12 3 (ff k))), .int .u64 (u (putI (putI 0#64 0 7 18446744073709551615#64) 12 3 18446744073709551615#64)), .int .u64 (u x), .int .u64 (u (putI (putI 0#64 0 7 18446744073709551615#64) 12 3 18446744073709551615#64)), .int .u64 (u (x &&& (putI (putI 0#64 0 7 18446744073709551615#64) 12 3 18446744073709551615#64))), .int .u64 (u (putI (putI 0#64 0 7 (cd k)) 12 3 (ff k))), .bool ((u (x &&& (putI (putI 0#64 0 7 18446744073709551615#64) 12 3 18446744073709551615#64))) != (u (putI (putI 0#64 0 7 (cd k)) 12 3 (ff k)))), y30, y31, y32, y33, y34, y35, y36, y37, y38, y39, y40, y41, y42, y43, y44, y45, y46, y47, y48, y49, y50, y51, y52, y53, y54, y55, y56, y57, y58, y59, y60, .int .i64 ((k + 1 : Nat) : Int), by omega, fun j hj => (by rcases Nat.lt_or_ge j k with h | h; { exact hno j h }; { obtain rfl : j = k := (by omega); exact no_B j hs x (by assumption) }), by kernel_rfl, (Held.mem_tail M97)⟩, Kw.mlt (69 - (k + 1)) (69 - k) (by kernel_rfl) (by kernel_rfl) (by omega)⟩
      · skip
        refine wp_skip (Kw.then_normal (wp_seq (Kw.region ?_)))
        refine KS.p (.int .i64 ((k : Nat) : Int)) ?_
        refine KS.s (Canon.opS .add 3 (.tmp 30) (.const (.int .i64 1)) (.int .i64 ((k : Nat) : Int)) (.int .i64 1)) (.int .i64 ((k + 1 : Nat) : Int)) (Kw.eqv (v := .int .i64 (IntKind.i64.wrap (((k : Nat) : Int) + (1 : Int)))) (by kernel_rfl) (by rw [IntWalk.i64_in _ (by omega)]; rfl)) ?_
        refine KS.p (.pointer (some ⟨B95, 1, none⟩)) ?_
        refine KS.l 5 B95 1 (.int .u8 66) M97 0 Try.underlying5 ?_
        refine Held.callN (fun B => (.agg #[.slice (some ⟨B, 0, none⟩) 4 4, .int .i64 13, .bool true, .int .i64 1])) 42 #[.int .u8 66] #[.int .i64 1, .int .i64 4, .int .i64 8, .int .i64 5, .int .i64 6, .int .i64 25, .int .i64 11, .int .i64 1, .int .i64 7, .int .i64 12, .int .i64 1, .int .i64 31] 89 M97 (by kernel_rfl) (by kernel_rfl) (laid_B w97) fun w99 B99 M99 => ?_
        refine KS.p (.int .u64 (u x)) ?_
        refine KS.c (.int .i64 (s (signI (putI (putI (putI (putI 0#64 1 4 (getI x 8 4)) 5 6 (getI x 25 6)) 11 1 (getI x 7 1)) 12 1 (getI x 31 1)) 13))) 54 #[.agg #[.slice (some ⟨B99, 0, none⟩) 4 4, .int .i64 13, .bool true, .int .i64 1], .int .u64 (u x)] M99 (read_B x w99 B99 (Held.mem_of M99 0 rfl)) fun w100 M100 => ?_
        refine KS.p (.agg #[.int .i64 ((k + 1 : Nat) : Int), .int .i64 0, .int .i64 0, .int .i64 0, .int .i64 (s (signI (putI (putI (putI (putI 0#64 1 4 (getI x 8 4)) 5 6 (getI x 25 6)) 11 1 (getI x 7 1)) 12 1 (getI x 31 1)) 13))]) ?_
        refine Kw.alloc #[.int .i64 0, .int .i64 0, .int .i64 0, .int .i64 0, .int .i64 0] 36 M100 (by kernel_rfl) (by kernel_rfl) fun w101 B101 M101 => ?_
        refine Kw.storeAll 0 36 #[.int .i64 ((k + 1 : Nat) : Int), .int .i64 0, .int .i64 0, .int .i64 0, .int .i64 (s (signI (putI (putI (putI (putI 0#64 1 4 (getI x 8 4)) 5 6 (getI x 25 6)) 11 1 (getI x 7 1)) 12 1 (getI x 31 1)) 13))] M101 rfl (by kernel_rfl) (by kernel_rfl) (by kernel_rfl) (by kernel_rfl) (by kernel_rfl) fun w102 M102 => ?_
        refine KS.n4 ?_
        refine KS.p (.pointer (some ⟨B95, 1, none⟩)) ?_
        refine KS.l 5 B95 1 (.int .u8 66) M102 2 Try.underlying5 ?_
        refine KS.c (.tuple #[.bool false, .bool true, .bool true]) 45 #[.int .u8 66] M102 (has_B w102) fun w103 M103 => ?_
        refine KS.p (.tuple #[.bool false, .bool true, .bool true]) ?_
        refine KS.p (.bool false) ?_
        refine KS.p (.bool true) ?_
        refine KS.p (.bool true) ?_
        refine KS.p (.bool false) ?_
        refine KS.p (.bool true) ?_
        refine KS.p (.bool true) ?_
        refine KS.n5 ?_
        refine KS.p (.bool false) ?_
        refine KS.n2 ?_
        refine wp_cond_false (by kernel_rfl) ?_
        refine wp_skip (Kw.then_normal (wp_seq (wp_seq (Kw.region ?_))))
        refine KS.p (.bool true) ?_
        refine KS.n2 ?_
        refine wp_cond_true (by kernel_rfl) ?_
        refine Kw.region ?_
        refine KS.p (.int .u64 (u x)) ?_
        refine KS.c (.int .u64 (u (getI x 15 5))) 36 #[.int .u64 (u x), .int .i64 15, .int .i64 5] M103 (get_c x 15 5 w103) fun w104 M104 => ?_
        refine Kw.pure (.int .i64 (s (getI x 15 5))) (by kernel_rfl) (Kw.eqv (v := .int .i64 (IntKind.i64.wrap (u (getI x 15 5)))) (by kernel_rfl) (congrArg (Value.int .i64) (wrapi_u (getI x 15 5)))) ?_
        refine KS.p (.pointer (some ⟨B101, 2, none⟩)) ?_
        refine Kw.storeCell 0 3 2 (.int .i64 (s (getI x 15 5))) #[.int .i64 ((k + 1 : Nat) : Int), .int .i64 0, .int .i64 (s (getI x 15 5)), .int .i64 0, .int .i64 (s (signI (putI (putI (putI (putI 0#64 1 4 (getI x 8 4)) 5 6 (getI x 25 6)) 11 1 (getI x 7 1)) 12 1 (getI x 31 1)) 13))] M104 rfl (by kernel_rfl) (by kernel_rfl) (show 2 < 5 from by decide) (by kernel_rfl) rfl (by kernel_rfl) (by kernel_rfl) fun w105 M105 => ?_
        refine KS.n5 ?_
        refine KS.p (.bool true) ?_
        refine KS.n2 ?_
        refine wp_cond_true (by kernel_rfl) ?_
        refine Kw.region ?_
        refine KS.p (.int .u64 (u x)) ?_
        refine KS.c (.int .u64 (u (getI x 20 5))) 36 #[.int .u64 (u x), .int .i64 20, .int .i64 5] M105 (get_c x 20 5 w105) fun w106 M106 => ?_
        refine Kw.pure (.int .i64 (s (getI x 20 5))) (by kernel_rfl) (Kw.eqv (v := .int .i64 (IntKind.i64.wrap (u (getI x 20 5)))) (by kernel_rfl) (congrArg (Value.int .i64) (wrapi_u (getI x 20 5)))) ?_
        refine KS.p (.pointer (some ⟨B101, 3, none⟩)) ?_
        refine Kw.storeCell 0 3 3 (.int .i64 (s (getI x 20 5))) #[.int .i64 ((k + 1 : Nat) : Int), .int .i64 0, .int .i64 (s (getI x 15 5)), .int .i64 (s (getI x 20 5)), .int .i64 (s (signI (putI (putI (putI (putI 0#64 1 4 (getI x 8 4)) 5 6 (getI x 25 6)) 11 1 (getI x 7 1)) 12 1 (getI x 31 1)) 13))] M106 rfl (by kernel_rfl) (by kernel_rfl) (show 3 < 5 from by decide) (by kernel_rfl) rfl (by kernel_rfl) (by kernel_rfl) fun w107 M107 => ?_
        refine KS.n4 ?_
        refine KS.la 36 B101 _ M107 0 Try.underlying36 ?_
        refine Kw.storeAll 3 36 #[.int .i64 ((k + 1 : Nat) : Int), .int .i64 0, .int .i64 (s (getI x 15 5)), .int .i64 (s (getI x 20 5)), .int .i64 (s (signI (putI (putI (putI (putI 0#64 1 4 (getI x 8 4)) 5 6 (getI x 25 6)) 11 1 (getI x 7 1)) 12 1 (getI x 31 1)) 13))] M107 rfl (by kernel_rfl) (by kernel_rfl) (by kernel_rfl) (by kernel_rfl) (by kernel_rfl) fun w108 M108 => ?_
        refine KS.p (.bool true) ?_
        refine Kw.fin (Kw.then_normal (wp_ret (Kw.block_ret (Kw.then_ret (Kw.then_ret (Kw.block_ret (Kw.then_ret ?_)))))))
        have hr109 : (loadVar 36 ⟨B1, 0, none⟩).run Try.prog w108 = .ok (.agg #[.int .i64 ((k + 1 : Nat) : Int), .int .i64 0, .int .i64 (s (getI x 15 5)), .int .i64 (s (getI x 20 5)), .int .i64 (s (signI (putI (putI (putI (putI 0#64 1 4 (getI x 8 4)) 5 6 (getI x 25 6)) 11 1 (getI x 7 1)) 12 1 (getI x 31 1)) 13))]) w108 := run_loadVar_row w108 B1 36 36 _ (0, 0) _ (M108.get 3 rfl) Try.underlying36 rfl (by kernel_rfl)
        exact KS.r2 (.bool true) Try.results27 hr109 ⟨by rw [dec_at x k hlt hno (yes_B k hs x (by assumption)), dec_B k x hs], M108.drop⟩
    · skip
      refine wp_seq (Kw.region ?_)
      refine KS.s (Canon.opS .lss 3 (.tmp 16) (.const (.int .i64 69)) (.int .i64 ((k : Nat) : Int)) (.int .i64 69)) (.bool true) (Kw.eqv (v := .bool (decide (((k : Nat) : Int) < (69 : Int)))) (by kernel_rfl) (by rw [decide_eq_true (by omega)])) ?_
      refine Kw.fin (Kw.then_normal (wp_seq ?_))
      refine wp_cond_true (by kernel_rfl) ?_
      refine wp_skip (Kw.then_normal (wp_seq (wp_block (wp_seq (Kw.region ?_)))))
      refine KS.p (.int .i64 ((k : Nat) : Int)) ?_
      refine KS.s (Kw.ixS 81 (.agg rowsCells) (.int .i64 ((k : Nat) : Int))) (.agg #[.string (nm k), .int .u8 85, .int .u64 (u (cd k)), .int .u64 (u (ff k)), .int .u64 (u (ot k))]) (index_sh 85 k hlt hs w) ?_
      refine Kw.alloc #[.string ⟨#[]⟩, .int .u8 0, .int .u64 0, .int .u64 0, .int .u64 0] 59 M (by kernel_rfl) (by kernel_rfl) fun w110 B110 M110 => ?_
      refine KS.p (.int .i64 ((k : Nat) : Int)) ?_
      refine Kw.storeAll 0 59 #[.string (nm k), .int .u8 85, .int .u64 (u (cd k)), .int .u64 (u (ff k)), .int .u64 (u (ot k))] M110 rfl (by kernel_rfl) (by kernel_rfl) (by kernel_rfl) (by kernel_rfl) (by kernel_rfl) fun w111 M111 => ?_
      refine KS.n4 ?_
      refine KS.la 59 B110 _ M111 0 Try.underlying59 ?_
      refine KS.c (.tuple #[.int .u64 (u (putI 0#64 0 7 (cd k))), .int .u64 (u (putI 0#64 0 7 18446744073709551615#64))]) 44 #[.agg #[.string (nm k), .int .u8 85, .int .u64 (u (cd k)), .int .u64 (u (ff k)), .int .u64 (u (ot k))]] M111 (fixed_U (nm k) (cd k) (ff k) (ot k) w111) fun w112 M112 => ?_
      refine KS.p (.tuple #[.int .u64 (u (putI 0#64 0 7 (cd k))), .int .u64 (u (putI 0#64 0 7 18446744073709551615#64))]) ?_
      refine KS.p (.int .u64 (u (putI 0#64 0 7 (cd k)))) ?_
      refine KS.p (.int .u64 (u (putI 0#64 0 7 18446744073709551615#64))) ?_
      refine KS.p (.int .u64 (u (putI 0#64 0 7 (cd k)))) ?_
      refine KS.p (.int .u64 (u (putI 0#64 0 7 18446744073709551615#64))) ?_
      refine KS.n5 ?_
      refine KS.p (.int .u64 (u x)) ?_
      refine KS.p (.int .u64 (u (putI 0#64 0 7 18446744073709551615#64))) ?_
      refine KS.s (Canon.opS .and 22 (.tmp 25) (.tmp 26) (.int .u64 (u x)) (.int .u64 (u (putI 0#64 0 7 18446744073709551615#64)))) (.int .u64 (u (x &&& (putI 0#64 0 7 18446744073709551615#64)))) (Kw.eqv (v := .int .u64 (Go.bits .and .u64 ((u x)) ((u (putI 0#64 0 7 18446744073709551615#64))))) (by kernel_rfl) (congrArg (Value.int .u64) (bits_and x (putI 0#64 0 7 18446744073709551615#64)))) ?_
      refine KS.p (.int .u64 (u (putI 0#64 0 7 (cd k)))) ?_
      refine KS.s (Canon.opS .neq 22 (.tmp 27) (.tmp 28) (.int .u64 (u (x &&& (putI 0#64 0 7 18446744073709551615#64)))) (.int .u64 (u (putI 0#64 0 7 (cd k))))) (.bool ((u (x &&& (putI 0#64 0 7 18446744073709551615#64))) != (u (putI 0#64 0 7 (cd k))))) (by kernel_rfl) ?_
      refine KS.n2 ?_
      refine wp_cond_split (t := ((u (x &&& (putI 0#64 0 7 18446744073709551615#64))) != (u (putI 0#64 0 7 (cd k))))) (by kernel_rfl) (fun h113 => ?_) (fun h113 => ?_)
      · skip
        refine wp_exit (Kw.then_exit (Kw.block_hit (Kw.then_normal (Kw.region ?_))))
        refine KS.s (Canon.opS .add 3 (.tmp 16) (.const (.int .i64 1)) (.int .i64 ((k : Nat) : Int)) (.int .i64 1)) (.int .i64 ((k + 1 : Nat) : Int)) (Kw.eqv (v := .int .i64 (IntKind.i64.wrap (((k : Nat) : Int) + (1 : Int)))) (by kernel_rfl) (by rw [IntWalk.i64_in _ (by omega)]; rfl)) ?_
        refine KS.p (.int .i64 ((k + 1 : Nat) : Int)) ?_
        refine KS.n2 ?_
        exact ⟨⟨k + 1, y3, .int .i64 ((k : Nat) : Int), .pointer (some ⟨B110, 0, none⟩), .int .u64 (u (putI 0#64 0 7 (cd k))), .int .u64 (u (putI 0#64 0 7 18446744073709551615#64)), y9, y10, y11, y12, .bool true, .int .i64 ((k : Nat) : Int), .agg #[.string (nm k), .int .u8 85, .int .u64 (u (cd k)), .int .u64 (u (ff k)), .int .u64 (u (ot k))], .tuple #[.int .u64 (u (putI 0#64 0 7 (cd k))), .int .u64 (u (putI 0#64 0 7 18446744073709551615#64))], .agg #[.string (nm k), .int .u8 85, .int .u64 (u (cd k)), .int .u64 (u (ff k)), .int .u64 (u (ot k))], .tuple #[.int .u64 (u (putI 0#64 0 7 (cd k))), .int .u64 (u (putI 0#64 0 7 18446744073709551615#64))], .int .u64 (u (putI 0#64 0 7 (cd k))), .int .u64 (u (putI 0#64 0 7 18446744073709551615#64)), .int .u64 (u x), .int .u64 (u (putI 0#64 0 7 18446744073709551615#64)), .int .u64 (u (x &&& (putI 0#64 0 7 18446744073709551615#64))), .int .u64 (u (putI 0#64 0 7 (cd k))), .bool ((u (x &&& (putI 0#64 0 7 18446744073709551615#64))) != (u (putI 0#64 0 7 (cd k)))), y30, y31, y32, y33, y34, y35, y36, y37, y38, y39, y40, y41, y42, y43, y44, y45, y46, y47, y48, y49, y50, y51, y52, y53, y54, y55, y56, y57, y58, y59, y60, .int .i64 ((k + 1 : Nat) : Int), by omega, fun j hj => (by rcases Nat.lt_or_ge j k with h | h; { exact hno j h }; { obtain rfl : j = k := (by omega); exact no_U j hs x (by assumption) }), by kernel_rfl, (Held.mem_tail M112)⟩, Kw.mlt (69 - (k + 1)) (69 - k) (by kernel_rfl) (by kernel_rfl) (by omega)⟩
      · skip
        refine wp_skip (Kw.then_normal (wp_seq (Kw.region ?_)))
        refine KS.p (.int .i64 ((k : Nat) : Int)) ?_
        refine KS.s (Canon.opS .add 3 (.tmp 30) (.const (.int .i64 1)) (.int .i64 ((k : Nat) : Int)) (.int .i64 1)) (.int .i64 ((k + 1 : Nat) : Int)) (Kw.eqv (v := .int .i64 (IntKind.i64.wrap (((k : Nat) : Int) + (1 : Int)))) (by kernel_rfl) (by rw [IntWalk.i64_in _ (by omega)]; rfl)) ?_
        refine KS.p (.pointer (some ⟨B110, 1, none⟩)) ?_
        refine KS.l 5 B110 1 (.int .u8 85) M112 0 Try.underlying5 ?_
        refine Held.callN (fun B => (.agg #[.slice (some ⟨B, 0, none⟩) 1 1, .int .i64 32, .bool true, .int .i64 12])) 42 #[.int .u8 85] #[.int .i64 12, .int .i64 20, .int .i64 12] 89 M112 (by kernel_rfl) (by kernel_rfl) (laid_U w112) fun w114 B114 M114 => ?_
        refine KS.p (.int .u64 (u x)) ?_
        refine KS.c (.int .i64 (s (signI (putI 0#64 12 20 (getI x 12 20)) 32))) 54 #[.agg #[.slice (some ⟨B114, 0, none⟩) 1 1, .int .i64 32, .bool true, .int .i64 12], .int .u64 (u x)] M114 (read_U x w114 B114 (Held.mem_of M114 0 rfl)) fun w115 M115 => ?_
        refine KS.p (.agg #[.int .i64 ((k + 1 : Nat) : Int), .int .i64 0, .int .i64 0, .int .i64 0, .int .i64 (s (signI (putI 0#64 12 20 (getI x 12 20)) 32))]) ?_
        refine Kw.alloc #[.int .i64 0, .int .i64 0, .int .i64 0, .int .i64 0, .int .i64 0] 36 M115 (by kernel_rfl) (by kernel_rfl) fun w116 B116 M116 => ?_
        refine Kw.storeAll 0 36 #[.int .i64 ((k + 1 : Nat) : Int), .int .i64 0, .int .i64 0, .int .i64 0, .int .i64 (s (signI (putI 0#64 12 20 (getI x 12 20)) 32))] M116 rfl (by kernel_rfl) (by kernel_rfl) (by kernel_rfl) (by kernel_rfl) (by kernel_rfl) fun w117 M117 => ?_
        refine KS.n4 ?_
        refine KS.p (.pointer (some ⟨B110, 1, none⟩)) ?_
        refine KS.l 5 B110 1 (.int .u8 85) M117 2 Try.underlying5 ?_
        refine KS.c (.tuple #[.bool true, .bool false, .bool false]) 45 #[.int .u8 85] M117 (has_U w117) fun w118 M118 => ?_
        refine KS.p (.tuple #[.bool true, .bool false, .bool false]) ?_
        refine KS.p (.bool true) ?_
        refine KS.p (.bool false) ?_
        refine KS.p (.bool false) ?_
        refine KS.p (.bool true) ?_
        refine KS.p (.bool false) ?_
        refine KS.p (.bool false) ?_
        refine KS.n5 ?_
        refine KS.p (.bool true) ?_
        refine KS.n2 ?_
        refine wp_cond_true (by kernel_rfl) ?_
        refine Kw.region ?_
        refine KS.p (.int .u64 (u x)) ?_
        refine KS.c (.int .u64 (u (getI x 7 5))) 36 #[.int .u64 (u x), .int .i64 7, .int .i64 5] M118 (get_c x 7 5 w118) fun w119 M119 => ?_
        refine Kw.pure (.int .i64 (s (getI x 7 5))) (by kernel_rfl) (Kw.eqv (v := .int .i64 (IntKind.i64.wrap (u (getI x 7 5)))) (by kernel_rfl) (congrArg (Value.int .i64) (wrapi_u (getI x 7 5)))) ?_
        refine KS.p (.pointer (some ⟨B116, 1, none⟩)) ?_
        refine Kw.storeCell 0 3 1 (.int .i64 (s (getI x 7 5))) #[.int .i64 ((k + 1 : Nat) : Int), .int .i64 (s (getI x 7 5)), .int .i64 0, .int .i64 0, .int .i64 (s (signI (putI 0#64 12 20 (getI x 12 20)) 32))] M119 rfl (by kernel_rfl) (by kernel_rfl) (show 1 < 5 from by decide) (by kernel_rfl) rfl (by kernel_rfl) (by kernel_rfl) fun w120 M120 => ?_
        refine KS.n5 ?_
        refine KS.p (.bool false) ?_
        refine KS.n2 ?_
        refine wp_cond_false (by kernel_rfl) ?_
        refine wp_skip (Kw.then_normal (wp_seq (wp_seq (Kw.region ?_))))
        refine KS.p (.bool false) ?_
        refine KS.n2 ?_
        refine wp_cond_false (by kernel_rfl) ?_
        refine wp_skip (Kw.then_normal (wp_seq (Kw.region ?_)))
        refine KS.la 36 B116 _ M120 0 Try.underlying36 ?_
        refine Kw.storeAll 3 36 #[.int .i64 ((k + 1 : Nat) : Int), .int .i64 (s (getI x 7 5)), .int .i64 0, .int .i64 0, .int .i64 (s (signI (putI 0#64 12 20 (getI x 12 20)) 32))] M120 rfl (by kernel_rfl) (by kernel_rfl) (by kernel_rfl) (by kernel_rfl) (by kernel_rfl) fun w121 M121 => ?_
        refine KS.p (.bool true) ?_
        refine Kw.fin (Kw.then_normal (wp_ret (Kw.block_ret (Kw.then_ret (Kw.then_ret (Kw.block_ret (Kw.then_ret ?_)))))))
        have hr122 : (loadVar 36 ⟨B1, 0, none⟩).run Try.prog w121 = .ok (.agg #[.int .i64 ((k + 1 : Nat) : Int), .int .i64 (s (getI x 7 5)), .int .i64 0, .int .i64 0, .int .i64 (s (signI (putI 0#64 12 20 (getI x 12 20)) 32))]) w121 := run_loadVar_row w121 B1 36 36 _ (0, 0) _ (M121.get 3 rfl) Try.underlying36 rfl (by kernel_rfl)
        exact KS.r2 (.bool true) Try.results27 hr122 ⟨by rw [dec_at x k hlt hno (yes_U k hs x (by assumption)), dec_U k x hs], M121.drop⟩
    · skip
      refine wp_seq (Kw.region ?_)
      refine KS.s (Canon.opS .lss 3 (.tmp 16) (.const (.int .i64 69)) (.int .i64 ((k : Nat) : Int)) (.int .i64 69)) (.bool true) (Kw.eqv (v := .bool (decide (((k : Nat) : Int) < (69 : Int)))) (by kernel_rfl) (by rw [decide_eq_true (by omega)])) ?_
      refine Kw.fin (Kw.then_normal (wp_seq ?_))
      refine wp_cond_true (by kernel_rfl) ?_
      refine wp_skip (Kw.then_normal (wp_seq (wp_block (wp_seq (Kw.region ?_)))))
      refine KS.p (.int .i64 ((k : Nat) : Int)) ?_
      refine KS.s (Kw.ixS 81 (.agg rowsCells) (.int .i64 ((k : Nat) : Int))) (.agg #[.string (nm k), .int .u8 74, .int .u64 (u (cd k)), .int .u64 (u (ff k)), .int .u64 (u (ot k))]) (index_sh 74 k hlt hs w) ?_
      refine Kw.alloc #[.string ⟨#[]⟩, .int .u8 0, .int .u64 0, .int .u64 0, .int .u64 0] 59 M (by kernel_rfl) (by kernel_rfl) fun w123 B123 M123 => ?_
      refine KS.p (.int .i64 ((k : Nat) : Int)) ?_
      refine Kw.storeAll 0 59 #[.string (nm k), .int .u8 74, .int .u64 (u (cd k)), .int .u64 (u (ff k)), .int .u64 (u (ot k))] M123 rfl (by kernel_rfl) (by kernel_rfl) (by kernel_rfl) (by kernel_rfl) (by kernel_rfl) fun w124 M124 => ?_
      refine KS.n4 ?_
      refine KS.la 59 B123 _ M124 0 Try.underlying59 ?_
      refine KS.c (.tuple #[.int .u64 (u (putI 0#64 0 7 (cd k))), .int .u64 (u (putI 0#64 0 7 18446744073709551615#64))]) 44 #[.agg #[.string (nm k), .int .u8 74, .int .u64 (u (cd k)), .int .u64 (u (ff k)), .int .u64 (u (ot k))]] M124 (fixed_J (nm k) (cd k) (ff k) (ot k) w124) fun w125 M125 => ?_
      refine KS.p (.tuple #[.int .u64 (u (putI 0#64 0 7 (cd k))), .int .u64 (u (putI 0#64 0 7 18446744073709551615#64))]) ?_
      refine KS.p (.int .u64 (u (putI 0#64 0 7 (cd k)))) ?_
      refine KS.p (.int .u64 (u (putI 0#64 0 7 18446744073709551615#64))) ?_
      refine KS.p (.int .u64 (u (putI 0#64 0 7 (cd k)))) ?_
      refine KS.p (.int .u64 (u (putI 0#64 0 7 18446744073709551615#64))) ?_
      refine KS.n5 ?_
      refine KS.p (.int .u64 (u x)) ?_
      refine KS.p (.int .u64 (u (putI 0#64 0 7 18446744073709551615#64))) ?_
      refine KS.s (Canon.opS .and 22 (.tmp 25) (.tmp 26) (.int .u64 (u x)) (.int .u64 (u (putI 0#64 0 7 18446744073709551615#64)))) (.int .u64 (u (x &&& (putI 0#64 0 7 18446744073709551615#64)))) (Kw.eqv (v := .int .u64 (Go.bits .and .u64 ((u x)) ((u (putI 0#64 0 7 18446744073709551615#64))))) (by kernel_rfl) (congrArg (Value.int .u64) (bits_and x (putI 0#64 0 7 18446744073709551615#64)))) ?_
      refine KS.p (.int .u64 (u (putI 0#64 0 7 (cd k)))) ?_
      refine KS.s (Canon.opS .neq 22 (.tmp 27) (.tmp 28) (.int .u64 (u (x &&& (putI 0#64 0 7 18446744073709551615#64)))) (.int .u64 (u (putI 0#64 0 7 (cd k))))) (.bool ((u (x &&& (putI 0#64 0 7 18446744073709551615#64))) != (u (putI 0#64 0 7 (cd k))))) (by kernel_rfl) ?_
      refine KS.n2 ?_
      refine wp_cond_split (t := ((u (x &&& (putI 0#64 0 7 18446744073709551615#64))) != (u (putI 0#64 0 7 (cd k))))) (by kernel_rfl) (fun h126 => ?_) (fun h126 => ?_)
      · skip
        refine wp_exit (Kw.then_exit (Kw.block_hit (Kw.then_normal (Kw.region ?_))))
        refine KS.s (Canon.opS .add 3 (.tmp 16) (.const (.int .i64 1)) (.int .i64 ((k : Nat) : Int)) (.int .i64 1)) (.int .i64 ((k + 1 : Nat) : Int)) (Kw.eqv (v := .int .i64 (IntKind.i64.wrap (((k : Nat) : Int) + (1 : Int)))) (by kernel_rfl) (by rw [IntWalk.i64_in _ (by omega)]; rfl)) ?_
        refine KS.p (.int .i64 ((k + 1 : Nat) : Int)) ?_
        refine KS.n2 ?_
        exact ⟨⟨k + 1, y3, .int .i64 ((k : Nat) : Int), .pointer (some ⟨B123, 0, none⟩), .int .u64 (u (putI 0#64 0 7 (cd k))), .int .u64 (u (putI 0#64 0 7 18446744073709551615#64)), y9, y10, y11, y12, .bool true, .int .i64 ((k : Nat) : Int), .agg #[.string (nm k), .int .u8 74, .int .u64 (u (cd k)), .int .u64 (u (ff k)), .int .u64 (u (ot k))], .tuple #[.int .u64 (u (putI 0#64 0 7 (cd k))), .int .u64 (u (putI 0#64 0 7 18446744073709551615#64))], .agg #[.string (nm k), .int .u8 74, .int .u64 (u (cd k)), .int .u64 (u (ff k)), .int .u64 (u (ot k))], .tuple #[.int .u64 (u (putI 0#64 0 7 (cd k))), .int .u64 (u (putI 0#64 0 7 18446744073709551615#64))], .int .u64 (u (putI 0#64 0 7 (cd k))), .int .u64 (u (putI 0#64 0 7 18446744073709551615#64)), .int .u64 (u x), .int .u64 (u (putI 0#64 0 7 18446744073709551615#64)), .int .u64 (u (x &&& (putI 0#64 0 7 18446744073709551615#64))), .int .u64 (u (putI 0#64 0 7 (cd k))), .bool ((u (x &&& (putI 0#64 0 7 18446744073709551615#64))) != (u (putI 0#64 0 7 (cd k)))), y30, y31, y32, y33, y34, y35, y36, y37, y38, y39, y40, y41, y42, y43, y44, y45, y46, y47, y48, y49, y50, y51, y52, y53, y54, y55, y56, y57, y58, y59, y60, .int .i64 ((k + 1 : Nat) : Int), by omega, fun j hj => (by rcases Nat.lt_or_ge j k with h | h; { exact hno j h }; { obtain rfl : j = k := (by omega); exact no_J j hs x (by assumption) }), by kernel_rfl, (Held.mem_tail M125)⟩, Kw.mlt (69 - (k + 1)) (69 - k) (by kernel_rfl) (by kernel_rfl) (by omega)⟩
      · skip
        refine wp_skip (Kw.then_normal (wp_seq (Kw.region ?_)))
        refine KS.p (.int .i64 ((k : Nat) : Int)) ?_
        refine KS.s (Canon.opS .add 3 (.tmp 30) (.const (.int .i64 1)) (.int .i64 ((k : Nat) : Int)) (.int .i64 1)) (.int .i64 ((k + 1 : Nat) : Int)) (Kw.eqv (v := .int .i64 (IntKind.i64.wrap (((k : Nat) : Int) + (1 : Int)))) (by kernel_rfl) (by rw [IntWalk.i64_in _ (by omega)]; rfl)) ?_
        refine KS.p (.pointer (some ⟨B123, 1, none⟩)) ?_
        refine KS.l 5 B123 1 (.int .u8 74) M125 0 Try.underlying5 ?_
        refine Held.callN (fun B => (.agg #[.slice (some ⟨B, 0, none⟩) 4 4, .int .i64 21, .bool true, .int .i64 1])) 42 #[.int .u8 74] #[.int .i64 12, .int .i64 8, .int .i64 12, .int .i64 11, .int .i64 1, .int .i64 20, .int .i64 1, .int .i64 10, .int .i64 21, .int .i64 20, .int .i64 1, .int .i64 31] 89 M125 (by kernel_rfl) (by kernel_rfl) (laid_J w125) fun w127 B127 M127 => ?_
        refine KS.p (.int .u64 (u x)) ?_
        refine KS.c (.int .i64 (s (signI (putI (putI (putI (putI 0#64 12 8 (getI x 12 8)) 11 1 (getI x 20 1)) 1 10 (getI x 21 10)) 20 1 (getI x 31 1)) 21))) 54 #[.agg #[.slice (some ⟨B127, 0, none⟩) 4 4, .int .i64 21, .bool true, .int .i64 1], .int .u64 (u x)] M127 (read_J x w127 B127 (Held.mem_of M127 0 rfl)) fun w128 M128 => ?_
        refine KS.p (.agg #[.int .i64 ((k + 1 : Nat) : Int), .int .i64 0, .int .i64 0, .int .i64 0, .int .i64 (s (signI (putI (putI (putI (putI 0#64 12 8 (getI x 12 8)) 11 1 (getI x 20 1)) 1 10 (getI x 21 10)) 20 1 (getI x 31 1)) 21))]) ?_
        refine Kw.alloc #[.int .i64 0, .int .i64 0, .int .i64 0, .int .i64 0, .int .i64 0] 36 M128 (by kernel_rfl) (by kernel_rfl) fun w129 B129 M129 => ?_
        refine Kw.storeAll 0 36 #[.int .i64 ((k + 1 : Nat) : Int), .int .i64 0, .int .i64 0, .int .i64 0, .int .i64 (s (signI (putI (putI (putI (putI 0#64 12 8 (getI x 12 8)) 11 1 (getI x 20 1)) 1 10 (getI x 21 10)) 20 1 (getI x 31 1)) 21))] M129 rfl (by kernel_rfl) (by kernel_rfl) (by kernel_rfl) (by kernel_rfl) (by kernel_rfl) fun w130 M130 => ?_
        refine KS.n4 ?_
        refine KS.p (.pointer (some ⟨B123, 1, none⟩)) ?_
        refine KS.l 5 B123 1 (.int .u8 74) M130 2 Try.underlying5 ?_
        refine KS.c (.tuple #[.bool true, .bool false, .bool false]) 45 #[.int .u8 74] M130 (has_J w130) fun w131 M131 => ?_
        refine KS.p (.tuple #[.bool true, .bool false, .bool false]) ?_
        refine KS.p (.bool true) ?_
        refine KS.p (.bool false) ?_
        refine KS.p (.bool false) ?_
        refine KS.p (.bool true) ?_
        refine KS.p (.bool false) ?_
        refine KS.p (.bool false) ?_
        refine KS.n5 ?_
        refine KS.p (.bool true) ?_
        refine KS.n2 ?_
        refine wp_cond_true (by kernel_rfl) ?_
        refine Kw.region ?_
        refine KS.p (.int .u64 (u x)) ?_
        refine KS.c (.int .u64 (u (getI x 7 5))) 36 #[.int .u64 (u x), .int .i64 7, .int .i64 5] M131 (get_c x 7 5 w131) fun w132 M132 => ?_
        refine Kw.pure (.int .i64 (s (getI x 7 5))) (by kernel_rfl) (Kw.eqv (v := .int .i64 (IntKind.i64.wrap (u (getI x 7 5)))) (by kernel_rfl) (congrArg (Value.int .i64) (wrapi_u (getI x 7 5)))) ?_
        refine KS.p (.pointer (some ⟨B129, 1, none⟩)) ?_
        refine Kw.storeCell 0 3 1 (.int .i64 (s (getI x 7 5))) #[.int .i64 ((k + 1 : Nat) : Int), .int .i64 (s (getI x 7 5)), .int .i64 0, .int .i64 0, .int .i64 (s (signI (putI (putI (putI (putI 0#64 12 8 (getI x 12 8)) 11 1 (getI x 20 1)) 1 10 (getI x 21 10)) 20 1 (getI x 31 1)) 21))] M132 rfl (by kernel_rfl) (by kernel_rfl) (show 1 < 5 from by decide) (by kernel_rfl) rfl (by kernel_rfl) (by kernel_rfl) fun w133 M133 => ?_
        refine KS.n5 ?_
        refine KS.p (.bool false) ?_
        refine KS.n2 ?_
        refine wp_cond_false (by kernel_rfl) ?_
        refine wp_skip (Kw.then_normal (wp_seq (wp_seq (Kw.region ?_))))
        refine KS.p (.bool false) ?_
        refine KS.n2 ?_
        refine wp_cond_false (by kernel_rfl) ?_
        refine wp_skip (Kw.then_normal (wp_seq (Kw.region ?_)))
        refine KS.la 36 B129 _ M133 0 Try.underlying36 ?_
        refine Kw.storeAll 3 36 #[.int .i64 ((k + 1 : Nat) : Int), .int .i64 (s (getI x 7 5)), .int .i64 0, .int .i64 0, .int .i64 (s (signI (putI (putI (putI (putI 0#64 12 8 (getI x 12 8)) 11 1 (getI x 20 1)) 1 10 (getI x 21 10)) 20 1 (getI x 31 1)) 21))] M133 rfl (by kernel_rfl) (by kernel_rfl) (by kernel_rfl) (by kernel_rfl) (by kernel_rfl) fun w134 M134 => ?_
        refine KS.p (.bool true) ?_
        refine Kw.fin (Kw.then_normal (wp_ret (Kw.block_ret (Kw.then_ret (Kw.then_ret (Kw.block_ret (Kw.then_ret ?_)))))))
        have hr135 : (loadVar 36 ⟨B1, 0, none⟩).run Try.prog w134 = .ok (.agg #[.int .i64 ((k + 1 : Nat) : Int), .int .i64 (s (getI x 7 5)), .int .i64 0, .int .i64 0, .int .i64 (s (signI (putI (putI (putI (putI 0#64 12 8 (getI x 12 8)) 11 1 (getI x 20 1)) 1 10 (getI x 21 10)) 20 1 (getI x 31 1)) 21))]) w134 := run_loadVar_row w134 B1 36 36 _ (0, 0) _ (M134.get 3 rfl) Try.underlying36 rfl (by kernel_rfl)
        exact KS.r2 (.bool true) Try.results27 hr135 ⟨by rw [dec_at x k hlt hno (yes_J k hs x (by assumption)), dec_J k x hs], M134.drop⟩
    · skip
      refine wp_seq (Kw.region ?_)
      refine KS.s (Canon.opS .lss 3 (.tmp 16) (.const (.int .i64 69)) (.int .i64 ((k : Nat) : Int)) (.int .i64 69)) (.bool true) (Kw.eqv (v := .bool (decide (((k : Nat) : Int) < (69 : Int)))) (by kernel_rfl) (by rw [decide_eq_true (by omega)])) ?_
      refine Kw.fin (Kw.then_normal (wp_seq ?_))
      refine wp_cond_true (by kernel_rfl) ?_
      refine wp_skip (Kw.then_normal (wp_seq (wp_block (wp_seq (Kw.region ?_)))))
      refine KS.p (.int .i64 ((k : Nat) : Int)) ?_
      refine KS.s (Kw.ixS 81 (.agg rowsCells) (.int .i64 ((k : Nat) : Int))) (.agg #[.string (nm k), .int .u8 78, .int .u64 (u (cd k)), .int .u64 (u (ff k)), .int .u64 (u (ot k))]) (index_sh 78 k hlt hs w) ?_
      refine Kw.alloc #[.string ⟨#[]⟩, .int .u8 0, .int .u64 0, .int .u64 0, .int .u64 0] 59 M (by kernel_rfl) (by kernel_rfl) fun w136 B136 M136 => ?_
      refine KS.p (.int .i64 ((k : Nat) : Int)) ?_
      refine Kw.storeAll 0 59 #[.string (nm k), .int .u8 78, .int .u64 (u (cd k)), .int .u64 (u (ff k)), .int .u64 (u (ot k))] M136 rfl (by kernel_rfl) (by kernel_rfl) (by kernel_rfl) (by kernel_rfl) (by kernel_rfl) fun w137 M137 => ?_
      refine KS.n4 ?_
      refine KS.la 59 B136 _ M137 0 Try.underlying59 ?_
      refine KS.c (.tuple #[.int .u64 (u (putI (putI (putI 0#64 0 7 (cd k)) 7 13 0#64) 20 12 (ot k))), .int .u64 (u (putI (putI (putI 0#64 0 7 18446744073709551615#64) 7 13 18446744073709551615#64) 20 12 18446744073709551615#64))]) 44 #[.agg #[.string (nm k), .int .u8 78, .int .u64 (u (cd k)), .int .u64 (u (ff k)), .int .u64 (u (ot k))]] M137 (fixed_N (nm k) (cd k) (ff k) (ot k) w137) fun w138 M138 => ?_
      refine KS.p (.tuple #[.int .u64 (u (putI (putI (putI 0#64 0 7 (cd k)) 7 13 0#64) 20 12 (ot k))), .int .u64 (u (putI (putI (putI 0#64 0 7 18446744073709551615#64) 7 13 18446744073709551615#64) 20 12 18446744073709551615#64))]) ?_
      refine KS.p (.int .u64 (u (putI (putI (putI 0#64 0 7 (cd k)) 7 13 0#64) 20 12 (ot k)))) ?_
      refine KS.p (.int .u64 (u (putI (putI (putI 0#64 0 7 18446744073709551615#64) 7 13 18446744073709551615#64) 20 12 18446744073709551615#64))) ?_
      refine KS.p (.int .u64 (u (putI (putI (putI 0#64 0 7 (cd k)) 7 13 0#64) 20 12 (ot k)))) ?_
      refine KS.p (.int .u64 (u (putI (putI (putI 0#64 0 7 18446744073709551615#64) 7 13 18446744073709551615#64) 20 12 18446744073709551615#64))) ?_
      refine KS.n5 ?_
      refine KS.p (.int .u64 (u x)) ?_
      refine KS.p (.int .u64 (u (putI (putI (putI 0#64 0 7 18446744073709551615#64) 7 13 18446744073709551615#64) 20 12 18446744073709551615#64))) ?_
      refine KS.s (Canon.opS .and 22 (.tmp 25) (.tmp 26) (.int .u64 (u x)) (.int .u64 (u (putI (putI (putI 0#64 0 7 18446744073709551615#64) 7 13 18446744073709551615#64) 20 12 18446744073709551615#64)))) (.int .u64 (u (x &&& (putI (putI (putI 0#64 0 7 18446744073709551615#64) 7 13 18446744073709551615#64) 20 12 18446744073709551615#64)))) (Kw.eqv (v := .int .u64 (Go.bits .and .u64 ((u x)) ((u (putI (putI (putI 0#64 0 7 18446744073709551615#64) 7 13 18446744073709551615#64) 20 12 18446744073709551615#64))))) (by kernel_rfl) (congrArg (Value.int .u64) (bits_and x (putI (putI (putI 0#64 0 7 18446744073709551615#64) 7 13 18446744073709551615#64) 20 12 18446744073709551615#64)))) ?_
      refine KS.p (.int .u64 (u (putI (putI (putI 0#64 0 7 (cd k)) 7 13 0#64) 20 12 (ot k)))) ?_
      refine KS.s (Canon.opS .neq 22 (.tmp 27) (.tmp 28) (.int .u64 (u (x &&& (putI (putI (putI 0#64 0 7 18446744073709551615#64) 7 13 18446744073709551615#64) 20 12 18446744073709551615#64)))) (.int .u64 (u (putI (putI (putI 0#64 0 7 (cd k)) 7 13 0#64) 20 12 (ot k))))) (.bool ((u (x &&& (putI (putI (putI 0#64 0 7 18446744073709551615#64) 7 13 18446744073709551615#64) 20 12 18446744073709551615#64))) != (u (putI (putI (putI 0#64 0 7 (cd k)) 7 13 0#64) 20 12 (ot k))))) (by kernel_rfl) ?_
      refine KS.n2 ?_
      refine wp_cond_split (t := ((u (x &&& (putI (putI (putI 0#64 0 7 18446744073709551615#64) 7 13 18446744073709551615#64) 20 12 18446744073709551615#64))) != (u (putI (putI (putI 0#64 0 7 (cd k)) 7 13 0#64) 20 12 (ot k))))) (by kernel_rfl) (fun h139 => ?_) (fun h139 => ?_)
      · skip
        refine wp_exit (Kw.then_exit (Kw.block_hit (Kw.then_normal (Kw.region ?_))))
        refine KS.s (Canon.opS .add 3 (.tmp 16) (.const (.int .i64 1)) (.int .i64 ((k : Nat) : Int)) (.int .i64 1)) (.int .i64 ((k + 1 : Nat) : Int)) (Kw.eqv (v := .int .i64 (IntKind.i64.wrap (((k : Nat) : Int) + (1 : Int)))) (by kernel_rfl) (by rw [IntWalk.i64_in _ (by omega)]; rfl)) ?_
        refine KS.p (.int .i64 ((k + 1 : Nat) : Int)) ?_
        refine KS.n2 ?_
        exact ⟨⟨k + 1, y3, .int .i64 ((k : Nat) : Int), .pointer (some ⟨B136, 0, none⟩), .int .u64 (u (putI (putI (putI 0#64 0 7 (cd k)) 7 13 0#64) 20 12 (ot k))), .int .u64 (u (putI (putI (putI 0#64 0 7 18446744073709551615#64) 7 13 18446744073709551615#64) 20 12 18446744073709551615#64)), y9, y10, y11, y12, .bool true, .int .i64 ((k : Nat) : Int), .agg #[.string (nm k), .int .u8 78, .int .u64 (u (cd k)), .int .u64 (u (ff k)), .int .u64 (u (ot k))], .tuple #[.int .u64 (u (putI (putI (putI 0#64 0 7 (cd k)) 7 13 0#64) 20 12 (ot k))), .int .u64 (u (putI (putI (putI 0#64 0 7 18446744073709551615#64) 7 13 18446744073709551615#64) 20 12 18446744073709551615#64))], .agg #[.string (nm k), .int .u8 78, .int .u64 (u (cd k)), .int .u64 (u (ff k)), .int .u64 (u (ot k))], .tuple #[.int .u64 (u (putI (putI (putI 0#64 0 7 (cd k)) 7 13 0#64) 20 12 (ot k))), .int .u64 (u (putI (putI (putI 0#64 0 7 18446744073709551615#64) 7 13 18446744073709551615#64) 20 12 18446744073709551615#64))], .int .u64 (u (putI (putI (putI 0#64 0 7 (cd k)) 7 13 0#64) 20 12 (ot k))), .int .u64 (u (putI (putI (putI 0#64 0 7 18446744073709551615#64) 7 13 18446744073709551615#64) 20 12 18446744073709551615#64)), .int .u64 (u x), .int .u64 (u (putI (putI (putI 0#64 0 7 18446744073709551615#64) 7 13 18446744073709551615#64) 20 12 18446744073709551615#64)), .int .u64 (u (x &&& (putI (putI (putI 0#64 0 7 18446744073709551615#64) 7 13 18446744073709551615#64) 20 12 18446744073709551615#64))), .int .u64 (u (putI (putI (putI 0#64 0 7 (cd k)) 7 13 0#64) 20 12 (ot k))), .bool ((u (x &&& (putI (putI (putI 0#64 0 7 18446744073709551615#64) 7 13 18446744073709551615#64) 20 12 18446744073709551615#64))) != (u (putI (putI (putI 0#64 0 7 (cd k)) 7 13 0#64) 20 12 (ot k)))), y30, y31, y32, y33, y34, y35, y36, y37, y38, y39, y40, y41, y42, y43, y44, y45, y46, y47, y48, y49, y50, y51, y52, y53, y54, y55, y56, y57, y58, y59, y60, .int .i64 ((k + 1 : Nat) : Int), by omega, fun j hj => (by rcases Nat.lt_or_ge j k with h | h; { exact hno j h }; { obtain rfl : j = k := (by omega); exact no_N j hs x (by assumption) }), by kernel_rfl, (Held.mem_tail M138)⟩, Kw.mlt (69 - (k + 1)) (69 - k) (by kernel_rfl) (by kernel_rfl) (by omega)⟩
      · skip
        refine wp_skip (Kw.then_normal (wp_seq (Kw.region ?_)))
        refine KS.p (.int .i64 ((k : Nat) : Int)) ?_
        refine KS.s (Canon.opS .add 3 (.tmp 30) (.const (.int .i64 1)) (.int .i64 ((k : Nat) : Int)) (.int .i64 1)) (.int .i64 ((k + 1 : Nat) : Int)) (Kw.eqv (v := .int .i64 (IntKind.i64.wrap (((k : Nat) : Int) + (1 : Int)))) (by kernel_rfl) (by rw [IntWalk.i64_in _ (by omega)]; rfl)) ?_
        refine KS.p (.pointer (some ⟨B136, 1, none⟩)) ?_
        refine KS.l 5 B136 1 (.int .u8 78) M138 0 Try.underlying5 ?_
        refine KS.c (.agg #[.slice none 0 0, .int .i64 0, .bool false, .int .i64 0]) 42 #[.int .u8 78] M138 (laid_N w138) fun w140 M140 => ?_
        refine KS.p (.int .u64 (u x)) ?_
        refine KS.c (.int .i64 (IntKind.i64.wrap 0)) 54 #[.agg #[.slice none 0 0, .int .i64 0, .bool false, .int .i64 0], .int .u64 (u x)] M140 (read_R x w140) fun w141 M141 => ?_
        refine KS.p (.agg #[.int .i64 ((k + 1 : Nat) : Int), .int .i64 0, .int .i64 0, .int .i64 0, .int .i64 (IntKind.i64.wrap 0)]) ?_
        refine Kw.alloc #[.int .i64 0, .int .i64 0, .int .i64 0, .int .i64 0, .int .i64 0] 36 M141 (by kernel_rfl) (by kernel_rfl) fun w142 B142 M142 => ?_
        refine Kw.storeAll 0 36 #[.int .i64 ((k + 1 : Nat) : Int), .int .i64 0, .int .i64 0, .int .i64 0, .int .i64 (IntKind.i64.wrap 0)] M142 rfl (by kernel_rfl) (by kernel_rfl) (by kernel_rfl) (by kernel_rfl) (by kernel_rfl) fun w143 M143 => ?_
        refine KS.n4 ?_
        refine KS.p (.pointer (some ⟨B136, 1, none⟩)) ?_
        refine KS.l 5 B136 1 (.int .u8 78) M143 1 Try.underlying5 ?_
        refine KS.c (.tuple #[.bool false, .bool false, .bool false]) 45 #[.int .u8 78] M143 (has_N w143) fun w144 M144 => ?_
        refine KS.p (.tuple #[.bool false, .bool false, .bool false]) ?_
        refine KS.p (.bool false) ?_
        refine KS.p (.bool false) ?_
        refine KS.p (.bool false) ?_
        refine KS.p (.bool false) ?_
        refine KS.p (.bool false) ?_
        refine KS.p (.bool false) ?_
        refine KS.n5 ?_
        refine KS.p (.bool false) ?_
        refine KS.n2 ?_
        refine wp_cond_false (by kernel_rfl) ?_
        refine wp_skip (Kw.then_normal (wp_seq (wp_seq (Kw.region ?_))))
        refine KS.p (.bool false) ?_
        refine KS.n2 ?_
        refine wp_cond_false (by kernel_rfl) ?_
        refine wp_skip (Kw.then_normal (wp_seq (wp_seq (Kw.region ?_))))
        refine KS.p (.bool false) ?_
        refine KS.n2 ?_
        refine wp_cond_false (by kernel_rfl) ?_
        refine wp_skip (Kw.then_normal (wp_seq (Kw.region ?_)))
        refine KS.la 36 B142 _ M144 0 Try.underlying36 ?_
        refine Kw.storeAll 2 36 #[.int .i64 ((k + 1 : Nat) : Int), .int .i64 0, .int .i64 0, .int .i64 0, .int .i64 (IntKind.i64.wrap 0)] M144 rfl (by kernel_rfl) (by kernel_rfl) (by kernel_rfl) (by kernel_rfl) (by kernel_rfl) fun w145 M145 => ?_
        refine KS.p (.bool true) ?_
        refine Kw.fin (Kw.then_normal (wp_ret (Kw.block_ret (Kw.then_ret (Kw.then_ret (Kw.block_ret (Kw.then_ret ?_)))))))
        have hr146 : (loadVar 36 ⟨B1, 0, none⟩).run Try.prog w145 = .ok (.agg #[.int .i64 ((k + 1 : Nat) : Int), .int .i64 0, .int .i64 0, .int .i64 0, .int .i64 (IntKind.i64.wrap 0)]) w145 := run_loadVar_row w145 B1 36 36 _ (0, 0) _ (M145.get 2 rfl) Try.underlying36 rfl (by kernel_rfl)
        exact KS.r2 (.bool true) Try.results27 hr146 ⟨by rw [dec_at x k hlt hno (yes_N k hs x (by assumption)), dec_N k x hs], M145.drop⟩
  · skip
    refine wp_seq (Kw.region ?_)
    refine KS.s (Canon.opS .lss 3 (.tmp 16) (.const (.int .i64 69)) (.int .i64 ((k : Nat) : Int)) (.int .i64 69)) (.bool false) (Kw.eqv (v := .bool (decide (((k : Nat) : Int) < (69 : Int)))) (by kernel_rfl) (by rw [decide_eq_false (by omega)])) ?_
    refine Kw.fin (Kw.then_normal (wp_seq ?_))
    refine wp_cond_false (by kernel_rfl) ?_
    refine wp_exit (Kw.then_exit (Kw.then_exit (Kw.block_hit (Kw.then_normal (wp_seq (Kw.region ?_))))))
    refine KS.p (.agg #[.int .i64 0, .int .i64 0, .int .i64 0, .int .i64 0, .int .i64 0]) ?_
    refine Kw.storeAll 0 36 #[.int .i64 0, .int .i64 0, .int .i64 0, .int .i64 0, .int .i64 0] M rfl (by kernel_rfl) (by kernel_rfl) (by kernel_rfl) (by kernel_rfl) (by kernel_rfl) fun w147 M147 => ?_
    refine KS.p (.bool false) ?_
    refine Kw.fin (Kw.then_normal (wp_ret ?_))
    have hr148 : (loadVar 36 ⟨B1, 0, none⟩).run Try.prog w147 = .ok (.agg #[.int .i64 0, .int .i64 0, .int .i64 0, .int .i64 0, .int .i64 0]) w147 := run_loadVar_row w147 B1 36 36 _ (0, 0) _ (M147.get 0 rfl) Try.underlying36 rfl (by kernel_rfl)
    exact KS.r2 (.bool false) Try.results27 hr148 ⟨by rw [dec_none x (fun j hj => hno j (by omega))], M147.drop⟩
end Go.Proofs.Ytpmpibcfmejbfaa.Inst
