/- The names and lines of faults are the document's: the statement's function answers true. No condition but that the slice's faults lie where it says. -/
import Derived.Test.YtfhigpmpngfkbaaAudRt
namespace Go.Proofs.Ytfhigpmpngfkbaa.Aud
open Go Go.RowKit Go.Proofs.Ytfhigpmpngfkbaa.Bits
attribute [local irreducible] Go.wpList
set_option linter.unusedVariables false
set_option linter.unusedSimpArgs false
open Go.Proofs.Ytfhigpmpngfkbaa.K2 Go.Proofs.Ytfhigpmpngfkbaa.KO
theorem str_eq {P : Program} (X Y : Operand) (x : List UInt8) (w : World) : (Canon.opS .eql 9 X Y (.string (bs x)) (.string (bs x))).run P w = .ok (.value (.bool true)) w := by
  have : ((bs x).toList == (bs x).toList) = true := beq_self_eq_true _
  simp only [Canon.opS, eqGuard, binOp, Op.stringOp, this]
  rfl
theorem some_of {ob : Option Nat} {n cap : Nat} {cur : Array Value} {size : Nat} {xs : List Value} (O : Own ob n cap cur size xs) (h : 0 < n) : ∃ B, ob = some B := by
  cases ob with
  | none => have := O.nil rfl; omega
  | some B => exact ⟨B, rfl⟩
theorem cells_at (fs : List F3) : ∀ (i : Nat) (f : F3), fs[i]? = some f → ∀ j v, (rowF f)[j]? = some v → (cellsL fs)[i * 3 + j]? = some v := by
  induction fs with
  | nil => intro i f h; simp at h
  | cons g fs ih =>
    intro i f h j v hv
    have e : cellsL (g :: fs) = rowF g ++ cellsL fs := by simp [cellsL]
    have hl : (rowF g).length = 3 := rfl
    have hj : j < 3 := (List.getElem?_eq_some_iff.1 hv).1
    cases i with
    | zero =>
      have h : g = f := by simpa using h
      subst h
      rw [e, List.getElem?_append_left (by omega), Nat.zero_mul, Nat.zero_add]; exact hv
    | succ i =>
      rw [e, List.getElem?_append_right (by omega), hl, show (i + 1) * 3 + j - 3 = i * 3 + j by omega]
      exact ih i f (by simpa using h) j v hv
theorem at_own {w : World} {B n cap : Nat} {cur : Array Value} {fs : List F3} {e : TypeId} (O : Own (some B) n cap cur 3 (cellsL fs)) (hB : w.heap[B]? = some (.cells cur e (0, 0))) : At w B 0 fs :=
  ⟨lt_of hB, fun i f hf j v hv => by
    have h := own_cells O hB (i * 3 + j) v (cells_at fs i f hf j v hv)
    rw [Addr.add_lit, Nat.zero_add] at h
    rw [Nat.zero_add]; exact h⟩
theorem at_keep {W w : World} {l : List (Option Nat × Array Value × TypeId)} {b off : Nat} {fs : List F3} (h : At W b off fs) (M : Mem [] W w l) : At w b off fs :=
  ⟨Nat.lt_of_lt_of_le h.1 M.size, fun i f hf => at_later h M hf⟩
def f7 : F3 := (1#64, 5#64, 7#64)
theorem at_f7 {w : World} {B : Nat} (hB : w.heap[B]? = some (.cells #[.int .i64 1, .int .i64 5, .int .u64 7] 62 (0, 0))) : At w B 0 [f7] :=
  ⟨lt_of hB, fun i f hf j v hv => by
    match i, hf with
    | 0, hf =>
      cases hf
      rw [cell_of_row w B _ _ 62 (0, 0) hB]
      match j, hv with
      | 0, hv => cases hv; rfl
      | 1, hv => cases hv; rfl
      | 2, hv => cases hv; rfl
      | j + 3, hv => simp [rowF] at hv
    | i + 1, hf => simp at hf⟩
theorem text_f7 : textL [f7] = [115, 116, 114, 97, 121, 32, 49, 32, 55, 10] := by
  have h1 : wholeL 1#64 = dig 1 := rfl
  have h2 : dig 1 = [49] := dig_lt (by decide)
  have h3 : dig 7 = [55] := dig_lt (by decide)
  show (nmL 5 ++ [32] ++ wholeL 1#64 ++ [32] ++ dig 7 ++ [10]) ++ [] = _
  rw [h1, h2, h3]
  rfl
theorem at_take {W : World} {b off : Nat} {fs : List F3} (h : At W b off fs) (m : Nat) : At W b off (fs.take m) :=
  ⟨h.1, fun i f hf => h.2 i f (by
    rw [List.getElem?_take] at hf
    split at hf
    · exact hf
    · cases hf)⟩
abbrev slN (t : TypeId) (x h : Value) : Sem Next := do Pure.pure (.value (← Instr.sliceAt t x none (some h) none))
theorem sl100 (b off n cap : Nat) (hc : 100 ≤ cap) (w : World) : (slN 55 (.slice (some ⟨b, off, none⟩) n cap) (.int .i64 100)).run Try.prog w = .ok (.value (.slice (some ⟨b, off, none⟩) 100 cap)) w := by
  have h1 : (underlying 55).run Try.prog w = .ok (.slice 62) w := run_underlying Try.underlying55 w
  have h2 : (sizeOf 62).run Try.prog w = .ok 3 w := by kernel_rfl
  have h3 : ¬ cap = 0 := by omega
  have h4 : (100 : Int) ≤ (cap : Int) := by omega
  unfold slN Instr.sliceAt
  simp [Sem.run_bind, h1, h2, Instr.slice, Instr.sliceBounds, Instr.sliceBound, asIntOf, h3, h4, Addr.add]
theorem text_0 (ao : Option Addr) (cap : Nat) (W : World) : Calls Try.prog 38 #[.slice ao 0 cap] W fun e W' => e = .returned (.string (bs [])) ∧ K2.Mem [] W W' [] := by
  refine calls_of_wp Try.func38 rfl ?_
  have M0 : K2.Mem [] W W [] := K2.Mem.start _ _
  refine K2.to (b := ⟨#[.slice ao 0 cap, undef, undef, undef, undef, undef, undef, undef, undef, undef, undef, undef, undef, undef, undef, undef, undef, undef, undef, undef, undef, undef, undef, undef, undef, undef, undef], []⟩) (by kernel_rfl) ?_
  refine wp_seq ?_
  refine K2.region ?_
  refine K2.pure (.string { data := #[] }) (by kernel_rfl) (by kernel_rfl) ?_
  refine K2.fin ?_
  refine K2.then_normal ?_
  refine wp_seq ?_
  refine K2.region ?_
  refine K2.alloc #[.pointer none, .slice none 0 0] 76 M0 (by kernel_rfl) (by kernel_rfl) fun w1 B1 M1 => ?_
  refine K2.fin ?_
  refine K2.then_normal ?_
  refine wp_seq ?_
  refine wp_seq ?_
  refine K2.region ?_
  refine K2.pure (.slice ao 0 cap) (by kernel_rfl) (by kernel_rfl) ?_
  refine K2.pure (.int .i64 0) (by kernel_rfl) (by kernel_rfl) ?_
  refine K2.pure (.int .i64 0) (by kernel_rfl) (by kernel_rfl) ?_
  refine K2.fin ?_
  refine K2.then_normal ?_
  refine wp_block ?_
  refine wp_loop_rounds 1 ?_
  refine K2.round_succ ?_
  refine wp_seq ?_
  refine K2.region ?_
  refine K2.pure (.bool false) (by kernel_rfl) (by kernel_rfl) ?_
  refine K2.fin ?_
  refine K2.then_normal ?_
  refine wp_seq ?_
  refine wp_cond_false (by kernel_rfl) ?_
  refine wp_exit ?_
  refine K2.then_exit ?_
  refine K2.then_exit ?_
  refine K2.block_hit ?_
  refine K2.then_normal ?_
  refine wp_seq ?_
  refine K2.region ?_
  have MN := KO.mem_nil M1 5
  refine stringS (xs := []) (p := .pointer none) (n := 0) (cap := 0) MN (.inl rfl) (KO.own_nil 1) 1 0 (by decide) rfl rfl (by kernel_rfl) (by kernel_rfl) fun w2 M2 => ?_
  refine K2.pure (.string (bs [])) (by kernel_rfl) (by kernel_rfl) ?_
  refine K2.fin ?_
  refine K2.then_normal ?_
  refine wp_ret ?_
  exact bodyPost_ret (v := .string (bs [])) (by kernel_rfl) (by kernel_rfl) ⟨rfl, M2⟩
theorem own_0 (ao : Option Addr) (cap : Nat) (W : World) : Calls Try.prog 40 #[.slice ao 0 cap] W fun e W' => e = .returned (.slice none 0 0) ∧ K2.Mem [] W W' [] := by
  refine calls_of_wp Try.func40 rfl ?_
  have M0 : K2.Mem [] W W [] := K2.Mem.start _ _
  refine K2.to (b := ⟨#[.slice ao 0 cap, undef, undef, undef, undef, undef, undef, undef, undef, undef, undef, undef, undef, undef, undef, undef, undef, undef, undef], []⟩) (by kernel_rfl) ?_
  refine wp_seq ?_
  refine K2.region ?_
  refine K2.pure (.slice none 0 0) (by kernel_rfl) (by kernel_rfl) ?_
  refine K2.fin ?_
  refine K2.then_normal ?_
  refine wp_seq ?_
  refine K2.region ?_
  refine K2.pure (.slice none 0 0) (by kernel_rfl) (by kernel_rfl) ?_
  refine K2.fin ?_
  refine K2.then_normal ?_
  refine wp_seq ?_
  refine wp_seq ?_
  refine K2.region ?_
  refine K2.pure (.int .i64 0) (by kernel_rfl) (by kernel_rfl) ?_
  refine K2.fin ?_
  refine K2.then_normal ?_
  refine wp_block ?_
  refine wp_loop_rounds 1 ?_
  refine K2.round_succ ?_
  refine wp_seq ?_
  refine wp_seq ?_
  refine K2.region ?_
  refine K2.pure (.int .i64 0) (by kernel_rfl) (by kernel_rfl) ?_
  refine K2.pure (.slice ao 0 cap) (by kernel_rfl) (by kernel_rfl) ?_
  refine K2.pure (.int .i64 0) (by kernel_rfl) (by kernel_rfl) ?_
  refine K2.pure (.bool false) (by kernel_rfl) (by kernel_rfl) ?_
  refine K2.fin ?_
  refine K2.then_normal ?_
  refine wp_cond_false (by kernel_rfl) ?_
  refine wp_exit ?_
  refine K2.then_exit ?_
  refine K2.then_exit ?_
  refine K2.block_hit ?_
  refine K2.then_normal ?_
  refine wp_seq ?_
  refine K2.region ?_
  refine K2.pure (.slice none 0 0) (by kernel_rfl) (by kernel_rfl) ?_
  refine K2.pure (.slice none 0 0) (by kernel_rfl) (by kernel_rfl) ?_
  refine K2.fin ?_
  refine K2.then_normal ?_
  refine wp_ret ?_
  exact bodyPost_ret (v := .slice none 0 0) (by kernel_rfl) (by kernel_rfl) ⟨rfl, M0⟩
theorem rtext_0 (ao : Option Addr) (cap : Nat) (W : World) : Calls Try.prog 39 #[.slice ao 0 cap] W fun e W' => e = .returned (.string (bs [])) ∧ K2.Mem [] W W' [] := by
  refine calls_of_wp Try.func39 rfl ?_
  have M0 : K2.Mem [] W W [] := K2.Mem.start _ _
  refine K2.to (b := ⟨#[.slice ao 0 cap, undef, undef, undef, undef, undef, undef, undef, undef, undef, undef, undef, undef, undef, undef, undef, undef, undef, undef, undef, undef, undef, undef, undef, undef, undef, undef, undef, undef, undef, undef, undef, undef, undef, undef, undef, undef, undef, undef, undef, undef, undef, undef, undef, undef, undef, undef, undef, undef, undef, undef, undef, undef, undef, undef], []⟩) (by kernel_rfl) ?_
  refine wp_seq ?_
  refine K2.region ?_
  refine K2.pure (.string { data := #[] }) (by kernel_rfl) (by kernel_rfl) ?_
  refine K2.fin ?_
  refine K2.then_normal ?_
  refine wp_seq ?_
  refine K2.region ?_
  refine K2.pure (.string { data := #[] }) (by kernel_rfl) (by kernel_rfl) ?_
  refine K2.fin ?_
  refine K2.then_normal ?_
  refine wp_seq ?_
  refine wp_seq ?_
  refine K2.region ?_
  refine K2.pure (.int .i64 0) (by kernel_rfl) (by kernel_rfl) ?_
  refine K2.fin ?_
  refine K2.then_normal ?_
  refine wp_block ?_
  refine wp_loop_rounds 1 ?_
  refine K2.round_succ ?_
  refine wp_seq ?_
  refine wp_seq ?_
  refine K2.region ?_
  refine K2.pure (.int .i64 0) (by kernel_rfl) (by kernel_rfl) ?_
  refine K2.pure (.slice ao 0 cap) (by kernel_rfl) (by kernel_rfl) ?_
  refine K2.pure (.int .i64 0) (by kernel_rfl) (by kernel_rfl) ?_
  refine K2.pure (.bool false) (by kernel_rfl) (by kernel_rfl) ?_
  refine K2.fin ?_
  refine K2.then_normal ?_
  refine wp_cond_false (by kernel_rfl) ?_
  refine wp_exit ?_
  refine K2.then_exit ?_
  refine K2.then_exit ?_
  refine K2.block_hit ?_
  refine K2.then_normal ?_
  refine wp_seq ?_
  refine K2.region ?_
  refine K2.pure (.string { data := #[] }) (by kernel_rfl) (by kernel_rfl) ?_
  refine K2.pure (.string { data := #[] }) (by kernel_rfl) (by kernel_rfl) ?_
  refine K2.fin ?_
  refine K2.then_normal ?_
  refine wp_ret ?_
  exact bodyPost_ret (v := .string { data := #[] }) (by kernel_rfl) (by kernel_rfl) ⟨rfl, M0⟩
set_option maxHeartbeats 2000000 in
theorem names_in (b off n cap : Nat) (fs : List F3) (k : Int) (W : World) (hA : At W b off fs) (hn : fs.length = n) (h100 : n ≤ 100) (hpos : 0 < n) : Calls Try.prog 12 #[.slice (some ⟨b, off, none⟩) n cap, .int .i64 k] W fun e W' => e = .returned (.bool true) ∧ K2.Mem [] W W' [] := by
  refine calls_of_wp Try.func12 rfl ?_
  have M0 : K2.Mem [] W W [] := K2.Mem.start _ _
  refine K2.to (b := ⟨#[.slice (some ⟨b, off, none⟩) n cap, .int .i64 k, undef, undef, undef, undef, undef, undef, undef, undef, undef, undef, undef, undef, undef, undef, undef, undef, undef, undef, undef, undef, undef, undef, undef, undef, undef, undef, undef], []⟩) (by kernel_rfl) ?_
  refine wp_seq ?_
  refine K2.region ?_
  refine K2.pure (.bool false) (by kernel_rfl) (by kernel_rfl) ?_
  refine K2.fin ?_
  refine K2.then_normal ?_
  refine wp_seq ?_
  refine wp_seq ?_
  refine K2.region ?_
  refine K2.pure (.slice (some ⟨b, off, none⟩) n cap) (by kernel_rfl) (by kernel_rfl) ?_
  refine K2.pure (.int .i64 ((n : Nat) : Int)) (by kernel_rfl) (by kernel_rfl) ?_
  refine K2.pure (.bool false) (by kernel_rfl) (K2.eqv (v := .bool (decide (((n : Nat) : Int) > (100 : Int)))) (by kernel_rfl) (by rw [decide_eq_false (by omega)])) ?_
  refine K2.fin ?_
  refine K2.then_normal ?_
  refine wp_cond_false (by kernel_rfl) ?_
  refine wp_skip ?_
  refine K2.then_normal ?_
  refine wp_seq ?_
  refine K2.region ?_
  refine K2.pure (.slice (some ⟨b, off, none⟩) n cap) (by kernel_rfl) (by kernel_rfl) ?_
  refine K2.call (.string (bs (textL fs))) 38 #[.slice (some ⟨b, off, none⟩) n cap] M0 (by kernel_rfl) (by kernel_rfl) (text_c b off n cap fs W (at_keep hA M0) hn h100) fun w1 M1 => ?_
  refine K2.pure (.slice (some ⟨b, off, none⟩) n cap) (by kernel_rfl) (by kernel_rfl) ?_
  refine KO.callX (ι := Option Nat × Nat × Array Value) (fun x => KO.slv x.1 n x.2.1) (fun x => (x.1, x.2.2, 85)) (fun x => KO.Own x.1 n x.2.1 x.2.2 3 (cellsL fs)) 40 #[.slice (some ⟨b, off, none⟩) n cap] M1 (by kernel_rfl) (by kernel_rfl) ((own_c b off n cap fs w1 (at_keep hA M1) hn h100).mono fun e w' ⟨ob, c, cur, h1, h2, h3⟩ => ⟨(ob, c, cur), h1, h2, h3⟩) fun w2 x2 O2 M2 => ?_
  obtain ⟨ob2, c2, cur2⟩ := x2
  obtain ⟨B2, rfl⟩ := some_of O2 hpos
  refine K2.call (.string (bs (textL fs))) 39 #[.slice (some ⟨B2, 0, none⟩) n c2] M2 (by kernel_rfl) (by kernel_rfl) (rtext_c B2 0 n c2 fs w2 (at_own O2 (M2.get 0 rfl)) hn h100) fun w3 M3 => ?_
  refine K2.pureS (Canon.opS .eql 9 (.tmp 11) (.tmp 14) (.string (bs (textL fs))) (.string (bs (textL fs)))) (.bool true) (by kernel_rfl) (by kernel_rfl) (str_eq _ _ (textL fs) w3) ?_
  refine K2.pure (.bool true) (by kernel_rfl) (by kernel_rfl) ?_
  refine K2.pure (.int .i64 k) (by kernel_rfl) (by kernel_rfl) ?_
  refine K2.call (.string (bs (nmL k))) 41 #[.int .i64 k] M3 (by kernel_rfl) (by kernel_rfl) (name_c k w3) fun w4 M4 => ?_
  refine K2.pure (.int .i64 k) (by kernel_rfl) (by kernel_rfl) ?_
  refine K2.call (.string (bs (nmL k))) 42 #[.int .i64 k] M4 (by kernel_rfl) (by kernel_rfl) (rname_c k w4) fun w5 M5 => ?_
  refine K2.pureS (Canon.opS .eql 9 (.tmp 18) (.tmp 20) (.string (bs (nmL k))) (.string (bs (nmL k)))) (.bool true) (by kernel_rfl) (by kernel_rfl) (str_eq _ _ (nmL k) w5) ?_
  refine K2.pure (.bool true) (by kernel_rfl) (by kernel_rfl) ?_
  refine K2.pure (.bool true) (by kernel_rfl) (by kernel_rfl) ?_
  refine K2.pure (.agg #[.int .i64 1, .int .i64 5, .int .u64 7]) (by kernel_rfl) (by kernel_rfl) ?_
  refine K2.allocV (fun B => .slice (some ⟨B, 0, none⟩) 1 1) #[.int .i64 1, .int .i64 5, .int .u64 7] 62 M5 (by kernel_rfl) (by kernel_rfl) fun w6 B6 M6 => ?_
  refine K2.call (.string (bs [115, 116, 114, 97, 121, 32, 49, 32, 55, 10])) 38 #[.slice (some ⟨B6, 0, none⟩) 1 1] M6 (by kernel_rfl) (by kernel_rfl) (text_f7 ▸ text_c B6 0 1 1 [f7] w6 (at_f7 (M6.get 0 rfl)) rfl (by decide)) fun w7 M7 => ?_
  refine K2.pureS (Canon.opS .eql 9 (.tmp 26) (.const (.string { data := #[115, 116, 114, 97, 121, 32, 49, 32, 55, 10] })) (.string (bs [115, 116, 114, 97, 121, 32, 49, 32, 55, 10])) (.string { data := #[115, 116, 114, 97, 121, 32, 49, 32, 55, 10] })) (.bool true) (by kernel_rfl) (by kernel_rfl) (str_eq _ _ [115, 116, 114, 97, 121, 32, 49, 32, 55, 10] w7) ?_
  refine K2.pure (.bool true) (by kernel_rfl) (by kernel_rfl) ?_
  refine K2.pure (.bool true) (by kernel_rfl) (by kernel_rfl) ?_
  refine K2.fin ?_
  refine K2.then_normal ?_
  refine wp_ret ?_
  exact bodyPost_ret (v := .bool true) (by kernel_rfl) (by kernel_rfl) ⟨rfl, (KO.mem_sub M7 (.cons _ (.cons _ .slnil)))⟩
set_option maxHeartbeats 2000000 in
theorem names_big (b off n cap : Nat) (fs : List F3) (k : Int) (W : World) (hA : At W b off fs) (hn : fs.length = n) (h100 : 100 < n) (hcap : n ≤ cap) : Calls Try.prog 12 #[.slice (some ⟨b, off, none⟩) n cap, .int .i64 k] W fun e W' => e = .returned (.bool true) ∧ K2.Mem [] W W' [] := by
  refine calls_of_wp Try.func12 rfl ?_
  have M0 : K2.Mem [] W W [] := K2.Mem.start _ _
  refine K2.to (b := ⟨#[.slice (some ⟨b, off, none⟩) n cap, .int .i64 k, undef, undef, undef, undef, undef, undef, undef, undef, undef, undef, undef, undef, undef, undef, undef, undef, undef, undef, undef, undef, undef, undef, undef, undef, undef, undef, undef], []⟩) (by kernel_rfl) ?_
  refine wp_seq ?_
  refine K2.region ?_
  refine K2.pure (.bool false) (by kernel_rfl) (by kernel_rfl) ?_
  refine K2.fin ?_
  refine K2.then_normal ?_
  refine wp_seq ?_
  refine wp_seq ?_
  refine K2.region ?_
  refine K2.pure (.slice (some ⟨b, off, none⟩) n cap) (by kernel_rfl) (by kernel_rfl) ?_
  refine K2.pure (.int .i64 ((n : Nat) : Int)) (by kernel_rfl) (by kernel_rfl) ?_
  refine K2.pure (.bool true) (by kernel_rfl) (K2.eqv (v := .bool (decide (((n : Nat) : Int) > (100 : Int)))) (by kernel_rfl) (by rw [decide_eq_true (by omega)])) ?_
  refine K2.fin ?_
  refine K2.then_normal ?_
  refine wp_cond_true (by kernel_rfl) ?_
  refine K2.region ?_
  refine K2.pure (.slice (some ⟨b, off, none⟩) n cap) (by kernel_rfl) (by kernel_rfl) ?_
  refine K2.pureS (slN 55 (.slice (some ⟨b, off, none⟩) n cap) (.int .i64 100)) (.slice (some ⟨b, off, none⟩) 100 cap) (by kernel_rfl) (by kernel_rfl) (sl100 b off n cap (by omega) W) ?_
  refine K2.pure (.slice (some ⟨b, off, none⟩) 100 cap) (by kernel_rfl) (by kernel_rfl) ?_
  refine K2.fin ?_
  refine K2.then_normal ?_
  refine wp_seq ?_
  refine K2.region ?_
  refine K2.pure (.slice (some ⟨b, off, none⟩) 100 cap) (by kernel_rfl) (by kernel_rfl) ?_
  refine K2.call (.string (bs (textL (fs.take 100)))) 38 #[.slice (some ⟨b, off, none⟩) 100 cap] M0 (by kernel_rfl) (by kernel_rfl) (text_c b off 100 cap (fs.take 100) W (at_keep (at_take hA 100) M0) (by rw [List.length_take]; omega) (by omega)) fun w1 M1 => ?_
  refine K2.pure (.slice (some ⟨b, off, none⟩) 100 cap) (by kernel_rfl) (by kernel_rfl) ?_
  refine KO.callX (ι := Option Nat × Nat × Array Value) (fun x => KO.slv x.1 100 x.2.1) (fun x => (x.1, x.2.2, 85)) (fun x => KO.Own x.1 100 x.2.1 x.2.2 3 (cellsL (fs.take 100))) 40 #[.slice (some ⟨b, off, none⟩) 100 cap] M1 (by kernel_rfl) (by kernel_rfl) ((own_c b off 100 cap (fs.take 100) w1 (at_keep (at_take hA 100) M1) (by rw [List.length_take]; omega) (by omega)).mono fun e w' ⟨ob, c, cur, h1, h2, h3⟩ => ⟨(ob, c, cur), h1, h2, h3⟩) fun w2 x2 O2 M2 => ?_
  obtain ⟨ob2, c2, cur2⟩ := x2
  obtain ⟨B2, rfl⟩ := some_of O2 (by omega)
  refine K2.call (.string (bs (textL (fs.take 100)))) 39 #[.slice (some ⟨B2, 0, none⟩) 100 c2] M2 (by kernel_rfl) (by kernel_rfl) (rtext_c B2 0 100 c2 (fs.take 100) w2 (at_own O2 (M2.get 0 rfl)) (by rw [List.length_take]; omega) (by omega)) fun w3 M3 => ?_
  refine K2.pureS (Canon.opS .eql 9 (.tmp 11) (.tmp 14) (.string (bs (textL (fs.take 100)))) (.string (bs (textL (fs.take 100))))) (.bool true) (by kernel_rfl) (by kernel_rfl) (str_eq _ _ (textL (fs.take 100)) w3) ?_
  refine K2.pure (.bool true) (by kernel_rfl) (by kernel_rfl) ?_
  refine K2.pure (.int .i64 k) (by kernel_rfl) (by kernel_rfl) ?_
  refine K2.call (.string (bs (nmL k))) 41 #[.int .i64 k] M3 (by kernel_rfl) (by kernel_rfl) (name_c k w3) fun w4 M4 => ?_
  refine K2.pure (.int .i64 k) (by kernel_rfl) (by kernel_rfl) ?_
  refine K2.call (.string (bs (nmL k))) 42 #[.int .i64 k] M4 (by kernel_rfl) (by kernel_rfl) (rname_c k w4) fun w5 M5 => ?_
  refine K2.pureS (Canon.opS .eql 9 (.tmp 18) (.tmp 20) (.string (bs (nmL k))) (.string (bs (nmL k)))) (.bool true) (by kernel_rfl) (by kernel_rfl) (str_eq _ _ (nmL k) w5) ?_
  refine K2.pure (.bool true) (by kernel_rfl) (by kernel_rfl) ?_
  refine K2.pure (.bool true) (by kernel_rfl) (by kernel_rfl) ?_
  refine K2.pure (.agg #[.int .i64 1, .int .i64 5, .int .u64 7]) (by kernel_rfl) (by kernel_rfl) ?_
  refine K2.allocV (fun B => .slice (some ⟨B, 0, none⟩) 1 1) #[.int .i64 1, .int .i64 5, .int .u64 7] 62 M5 (by kernel_rfl) (by kernel_rfl) fun w6 B6 M6 => ?_
  refine K2.call (.string (bs [115, 116, 114, 97, 121, 32, 49, 32, 55, 10])) 38 #[.slice (some ⟨B6, 0, none⟩) 1 1] M6 (by kernel_rfl) (by kernel_rfl) (text_f7 ▸ text_c B6 0 1 1 [f7] w6 (at_f7 (M6.get 0 rfl)) rfl (by decide)) fun w7 M7 => ?_
  refine K2.pureS (Canon.opS .eql 9 (.tmp 26) (.const (.string { data := #[115, 116, 114, 97, 121, 32, 49, 32, 55, 10] })) (.string (bs [115, 116, 114, 97, 121, 32, 49, 32, 55, 10])) (.string { data := #[115, 116, 114, 97, 121, 32, 49, 32, 55, 10] })) (.bool true) (by kernel_rfl) (by kernel_rfl) (str_eq _ _ [115, 116, 114, 97, 121, 32, 49, 32, 55, 10] w7) ?_
  refine K2.pure (.bool true) (by kernel_rfl) (by kernel_rfl) ?_
  refine K2.pure (.bool true) (by kernel_rfl) (by kernel_rfl) ?_
  refine K2.fin ?_
  refine K2.then_normal ?_
  refine wp_ret ?_
  exact bodyPost_ret (v := .bool true) (by kernel_rfl) (by kernel_rfl) ⟨rfl, (KO.mem_sub M7 (.cons _ (.cons _ .slnil)))⟩
set_option maxHeartbeats 2000000 in
theorem names_none (ao : Option Addr) (cap : Nat) (k : Int) (W : World) : Calls Try.prog 12 #[.slice ao 0 cap, .int .i64 k] W fun e W' => e = .returned (.bool true) ∧ K2.Mem [] W W' [] := by
  refine calls_of_wp Try.func12 rfl ?_
  have M0 : K2.Mem [] W W [] := K2.Mem.start _ _
  refine K2.to (b := ⟨#[.slice ao 0 cap, .int .i64 k, undef, undef, undef, undef, undef, undef, undef, undef, undef, undef, undef, undef, undef, undef, undef, undef, undef, undef, undef, undef, undef, undef, undef, undef, undef, undef, undef], []⟩) (by kernel_rfl) ?_
  refine wp_seq ?_
  refine K2.region ?_
  refine K2.pure (.bool false) (by kernel_rfl) (by kernel_rfl) ?_
  refine K2.fin ?_
  refine K2.then_normal ?_
  refine wp_seq ?_
  refine wp_seq ?_
  refine K2.region ?_
  refine K2.pure (.slice ao 0 cap) (by kernel_rfl) (by kernel_rfl) ?_
  refine K2.pure (.int .i64 0) (by kernel_rfl) (by kernel_rfl) ?_
  refine K2.pure (.bool false) (by kernel_rfl) (by kernel_rfl) ?_
  refine K2.fin ?_
  refine K2.then_normal ?_
  refine wp_cond_false (by kernel_rfl) ?_
  refine wp_skip ?_
  refine K2.then_normal ?_
  refine wp_seq ?_
  refine K2.region ?_
  refine K2.pure (.slice ao 0 cap) (by kernel_rfl) (by kernel_rfl) ?_
  refine K2.call (.string (bs [])) 38 #[.slice ao 0 cap] M0 (by kernel_rfl) (by kernel_rfl) (text_0 ao cap W) fun w1 M1 => ?_
  refine K2.pure (.slice ao 0 cap) (by kernel_rfl) (by kernel_rfl) ?_
  refine K2.call (.slice none 0 0) 40 #[.slice ao 0 cap] M1 (by kernel_rfl) (by kernel_rfl) (own_0 ao cap w1) fun w2 M2 => ?_
  refine K2.call (.string (bs [])) 39 #[.slice none 0 0] M2 (by kernel_rfl) (by kernel_rfl) (rtext_0 none 0 w2) fun w3 M3 => ?_
  refine K2.pureS (Canon.opS .eql 9 (.tmp 11) (.tmp 14) (.string (bs [])) (.string (bs []))) (.bool true) (by kernel_rfl) (by kernel_rfl) (str_eq _ _ [] w3) ?_
  refine K2.pure (.bool true) (by kernel_rfl) (by kernel_rfl) ?_
  refine K2.pure (.int .i64 k) (by kernel_rfl) (by kernel_rfl) ?_
  refine K2.call (.string (bs (nmL k))) 41 #[.int .i64 k] M3 (by kernel_rfl) (by kernel_rfl) (name_c k w3) fun w4 M4 => ?_
  refine K2.pure (.int .i64 k) (by kernel_rfl) (by kernel_rfl) ?_
  refine K2.call (.string (bs (nmL k))) 42 #[.int .i64 k] M4 (by kernel_rfl) (by kernel_rfl) (rname_c k w4) fun w5 M5 => ?_
  refine K2.pureS (Canon.opS .eql 9 (.tmp 18) (.tmp 20) (.string (bs (nmL k))) (.string (bs (nmL k)))) (.bool true) (by kernel_rfl) (by kernel_rfl) (str_eq _ _ (nmL k) w5) ?_
  refine K2.pure (.bool true) (by kernel_rfl) (by kernel_rfl) ?_
  refine K2.pure (.bool true) (by kernel_rfl) (by kernel_rfl) ?_
  refine K2.pure (.agg #[.int .i64 1, .int .i64 5, .int .u64 7]) (by kernel_rfl) (by kernel_rfl) ?_
  refine K2.allocV (fun B => .slice (some ⟨B, 0, none⟩) 1 1) #[.int .i64 1, .int .i64 5, .int .u64 7] 62 M5 (by kernel_rfl) (by kernel_rfl) fun w6 B6 M6 => ?_
  refine K2.call (.string (bs [115, 116, 114, 97, 121, 32, 49, 32, 55, 10])) 38 #[.slice (some ⟨B6, 0, none⟩) 1 1] M6 (by kernel_rfl) (by kernel_rfl) (text_f7 ▸ text_c B6 0 1 1 [f7] w6 (at_f7 (M6.get 0 rfl)) rfl (by decide)) fun w7 M7 => ?_
  refine K2.pureS (Canon.opS .eql 9 (.tmp 26) (.const (.string { data := #[115, 116, 114, 97, 121, 32, 49, 32, 55, 10] })) (.string (bs [115, 116, 114, 97, 121, 32, 49, 32, 55, 10])) (.string { data := #[115, 116, 114, 97, 121, 32, 49, 32, 55, 10] })) (.bool true) (by kernel_rfl) (by kernel_rfl) (str_eq _ _ [115, 116, 114, 97, 121, 32, 49, 32, 55, 10] w7) ?_
  refine K2.pure (.bool true) (by kernel_rfl) (by kernel_rfl) ?_
  refine K2.pure (.bool true) (by kernel_rfl) (by kernel_rfl) ?_
  refine K2.fin ?_
  refine K2.then_normal ?_
  refine wp_ret ?_
  exact bodyPost_ret (v := .bool true) (by kernel_rfl) (by kernel_rfl) ⟨rfl, (KO.mem_sub M7 (.cons _ .slnil))⟩
end Go.Proofs.Ytfhigpmpngfkbaa.Aud
