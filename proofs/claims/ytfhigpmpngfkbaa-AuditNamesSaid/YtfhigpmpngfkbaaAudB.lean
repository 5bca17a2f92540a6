/- strings.Builder and strings.Join among the known blocks of a walk. The texts are below 2^47 bytes. -/
import Derived.Test.YtfhigpmpngfkbaaAudNm
import Derived.Test.YtfhigpmpngfkbaaAudShelf
namespace Go.Proofs.Ytfhigpmpngfkbaa.Aud
open Go Go.RowKit Go.Proofs.Ytfhigpmpngfkbaa.Bits Go.Proofs.Ytfhigpmpngfkbaa.K2 Go.Proofs.Ytfhigpmpngfkbaa.KO
attribute [local irreducible] Go.wpList
set_option linter.unusedVariables false
theorem owns_of {S : List Nat} {W w : World} {l : List (Option Nat × Array Value × TypeId)} (M : Mem S W w l) (hS : S = []) {ob : Option Nat} {n cap : Nat} {cur : Array Value} {e size : Nat} {xs : List Value} (O : Own ob n cap cur size xs) (k : Nat) (hk : l[k]? = some (ob, cur, e)) :
    w.ownsRow W.heap.size e size (slv ob n cap) n xs := by
  refine ⟨O.len, ?_⟩
  cases ob with
  | none => exact .inl ⟨rfl, O.nil rfl⟩
  | some B =>
    refine .inr ⟨B, cap, cur, rfl, ?_, M.get k hk, O.le, O.mx, O.sz, O.take⟩
    rcases M.own _ (List.mem_of_getElem? hk) B rfl with h | h
    · rw [hS] at h; cases h
    · exact h
theorem own_of {w : World} {base e size n : Nat} {v : Value} {xs : List Value} (h : w.ownsRow base e size v n xs) : ∃ ob cap cur, v = slv ob n cap ∧ Own ob n cap cur size xs ∧ v.ownBlock = ob ∧ ∀ B, ob = some B → base ≤ B ∧ w.heap[B]? = some (.cells cur e (0, 0)) := by
  obtain ⟨hl, ⟨rfl, rfl⟩ | ⟨g, cap, cur, rfl, hb, hg, h1, h2, h3, h4⟩⟩ := h
  · obtain rfl := List.eq_nil_of_length_eq_zero (show xs.length = 0 by simpa using hl)
    exact ⟨none, 0, #[], rfl, own_nil size, rfl, fun B hB => by cases hB⟩
  · exact ⟨some g, cap, cur, rfl, ⟨fun h => (by cases h), h1, h2, h3, hl, h4⟩, rfl, fun B hB => by cases hB; exact ⟨hb, hg⟩⟩
theorem below_mem {W w w' : World} {l : List (Option Nat × Array Value × TypeId)} (M : Mem [] W w l) (hb : Below W.heap.size w w') : Mem [] W w' [] :=
  ⟨hb.os.trans M.os, hb.tape.trans M.tape, hb.output.trans M.output, Nat.le_trans M.size hb.size, fun k hk hS => (hb.block k hk).trans (M.kept k hk hS), fun _ h => (nomatch h), fun _ h => (nomatch h), .nil⟩
/-- The builder's two blocks: its own, and its bytes. -/
theorem builder_of {W w : World} {l : List (Option Nat × Array Value × TypeId)} (M : Mem [] W w l) {b : Nat} {p : Value} (hp : p = .pointer none ∨ p = .pointer (some ⟨b, 0, none⟩)) {ob : Option Nat} {n cap : Nat} {cur : Array Value} {xs : List UInt8} (O : Own ob n cap cur 1 (Lib.byteCells xs))
    (i j : Nat) (hij : i ≠ j) (hi : l[i]? = some (some b, #[p, slv ob n cap], 76)) (hj : l[j]? = some (ob, cur, 5)) : Lib.IsBuilder 76 5 W.heap.size b (Lib.byteCells xs) w := by
  have hb : W.heap.size ≤ b := by
    rcases M.own _ (List.mem_of_getElem? hi) b rfl with h | h
    · cases h
    · exact h
  have hn : (Lib.byteCells xs).length = n := by have := O.len; omega
  have key : Lib.BuilderAt 76 5 W.heap.size b p (Lib.byteCells xs) w := by
    refine ⟨hb, slv ob n cap, M.get i hi, ?_, ?_⟩
    · rw [hn]; exact owns_of M rfl O j hj
    · cases ob with
      | none => intro h; cases h
      | some B =>
        intro h
        exact apart_of M.apart hij hi hj b rfl h
  rcases hp with rfl | rfl
  · exact .inl key
  · exact .inr key
theorem write_c {W w : World} {l : List (Option Nat × Array Value × TypeId)} (M : Mem [] W w l) {b : Nat} {p : Value} (hp : p = .pointer none ∨ p = .pointer (some ⟨b, 0, none⟩)) {ob : Option Nat} {n cap : Nat} {cur : Array Value} {xs : List UInt8} (O : Own ob n cap cur 1 (Lib.byteCells xs))
    (i j : Nat) (hij : i ≠ j) (hi : l[i]? = some (some b, #[p, slv ob n cap], 76)) (hj : l[j]? = some (ob, cur, 5)) (x : List UInt8) (hlen : xs.length + x.length ≤ 140737488355328) :
    Calls Try.prog 50 #[.pointer (some ⟨b, 0, none⟩), .string (bs x)] w fun e w' => e = .returned (.tuple #[.int .i64 (x.length : Int), .nilIface]) ∧ ∃ ob' cap' cur', Own ob' (n + x.length) cap' cur' 1 (Lib.byteCells (xs ++ x)) ∧ Mem [] W w' [(ob', cur', 5), (some b, #[.pointer (some ⟨b, 0, none⟩), slv ob' (n + x.length) cap'], 76)] := by
  have hn : (Lib.byteCells xs).length = n := by have := O.len; omega
  have hsc : Lib.strCells (bs x) = Lib.byteCells x := by simp [Lib.strCells, Lib.byteCells, bs]
  refine (Try.Builder_WriteString W.heap.size b _ (bs x) w (builder_of M hp O i j hij hi hj) (by rw [Lib.byteCells_length, bs_size]; exact hlen) M.size).mono fun e w' ⟨he, ⟨hb, v, hv, ho, hne⟩, hbel⟩ => ⟨by rw [he, bs_size], ?_⟩
  obtain ⟨ob', cap', cur', rfl, O', hob, hB⟩ := own_of ho
  have hlen2 : (Lib.byteCells xs ++ Lib.strCells (bs x)).length = n + x.length := by rw [List.length_append, hn, hsc, Lib.byteCells_length]
  rw [hlen2] at O' hv
  rw [hsc, show Lib.byteCells xs ++ Lib.byteCells x = Lib.byteCells (xs ++ x) by simp [Lib.byteCells]] at O'
  refine ⟨ob', cap', cur', O', ?_⟩
  have M0 := below_mem M hbel
  refine ⟨M0.os, M0.tape, M0.output, M0.size, M0.kept, fun q hq c hc => ?_, fun q hq c hc => ?_, ?_⟩
  · rcases List.mem_cons.1 hq with rfl | hq
    · exact (hB c hc).2
    · obtain rfl := List.mem_singleton.1 hq
      cases hc; exact hv
  · rcases List.mem_cons.1 hq with rfl | hq
    · exact .inr (hB c hc).1
    · obtain rfl := List.mem_singleton.1 hq
      cases hc; exact .inr hb
  · refine List.pairwise_cons.2 ⟨fun q hq c hc => ?_, List.pairwise_singleton _ _⟩
    obtain rfl := List.mem_singleton.1 hq
    intro h
    cases h
    exact hne (by rw [hob]; exact hc)
theorem string_c {W w : World} {l : List (Option Nat × Array Value × TypeId)} (M : Mem [] W w l) {b : Nat} {p : Value} (hp : p = .pointer none ∨ p = .pointer (some ⟨b, 0, none⟩)) {ob : Option Nat} {n cap : Nat} {cur : Array Value} {xs : List UInt8} (O : Own ob n cap cur 1 (Lib.byteCells xs))
    (i j : Nat) (hij : i ≠ j) (hi : l[i]? = some (some b, #[p, slv ob n cap], 76)) (hj : l[j]? = some (ob, cur, 5)) :
    Calls Try.prog 54 #[.pointer (some ⟨b, 0, none⟩)] w fun e w' => e = .returned (.string (bs xs)) ∧ Mem [] W w' [] :=
  (Try.Builder_String_any W.heap.size b xs w (builder_of M hp O i j hij hi hj) M.size).mono fun e w' ⟨he, hb⟩ => ⟨he, below_mem M hb⟩
theorem join_c {w : World} (B : Nat) (x y z : List UInt8) (hB : w.heap[B]? = some (.cells #[.string (bs x), .string (bs y), .string (bs z)] 9 (0, 0))) (hlen : x.length + y.length + z.length ≤ 1000) :
    Calls Try.prog 51 #[.slice (some ⟨B, 0, none⟩) 3 3, .string (bs [32])] w fun e w' => e = .returned (.string (bs (x ++ [32] ++ y ++ [32] ++ z))) ∧ Mem [] w w' [] := by
  have hd : ∀ l : List UInt8, (bs l).data.toList = l := fun l => by simp [bs]
  have hj : Lib.join ([bs x, bs y, bs z].map (·.data.toList)) (bs [32]).data.toList = x ++ [32] ++ y ++ [32] ++ z := by
    simp only [List.map_cons, List.map_nil, hd, Lib.join]
    simp [List.intercalate]
  have h := Try.strings_Join B 0 3 [bs x, bs y, bs z] (bs [32]) w (fun j s hs => by
      rw [Nat.zero_add, cell_of_row w B j _ 9 (0, 0) hB]
      match j, hs with
      | 0, hs => cases hs; rfl
      | 1, hs => cases hs; rfl
      | 2, hs => cases hs; rfl
      | j + 3, hs => simp at hs) (lt_of hB) (by simp) (by simp) (by rw [hj]; simp only [List.length_append, List.length_cons, List.length_nil]; omega)
  rw [hj] at h
  exact h.mono fun e w' ⟨he, hb⟩ => ⟨he, of_below hb⟩
section
variable {ops : Array Oper} {Q : Exit → Act → World → Prop} {o : Oper} {rest : List Oper} {a : Act}
theorem writeS {W w : World} {l : List (Option Nat × Array Value × TypeId)} (M : Mem [] W w l) {b : Nat} {p : Value} (hp : p = .pointer none ∨ p = .pointer (some ⟨b, 0, none⟩)) {ob : Option Nat} {n cap : Nat} {cur : Array Value} {xs : List UInt8} (O : Own ob n cap cur 1 (Lib.byteCells xs))
    (i j : Nat) (hij : i ≠ j) (hi : l[i]? = some (some b, #[p, slv ob n cap], 76)) (hj : l[j]? = some (ob, cur, 5)) (x : List UInt8) (hlen : xs.length + x.length ≤ 140737488355328)
    (hg : Region.wanted o (yielded ops a.tmps) = true) (h : (execOp a.eval o).run Try.prog w = .ok (.enter 50 #[.pointer (some ⟨b, 0, none⟩), .string (bs x)]) w)
    (hr : ∀ w' ob' cap' cur', Own ob' (n + x.length) cap' cur' 1 (Lib.byteCells (xs ++ x)) → Mem [] W w' [(ob', cur', 5), (some b, #[.pointer (some ⟨b, 0, none⟩), slv ob' (n + x.length) cap'], 76)] → wpList Try.prog ops Q rest (a.put o.dst (.tuple #[.int .i64 (x.length : Int), .nilIface])) w') : wpList Try.prog ops Q (o :: rest) a w :=
  wl hg fun K hK => by
    unfold Oper.wp; rw [h]
    refine Calls.mono (write_c M hp O i j hij hi hj x hlen) fun e w' ⟨he, ob', cap', cur', O', M'⟩ => ?_
    subst he
    exact hK _ _ (hr _ _ _ _ O' M')
theorem stringS {W w : World} {l : List (Option Nat × Array Value × TypeId)} (M : Mem [] W w l) {b : Nat} {p : Value} (hp : p = .pointer none ∨ p = .pointer (some ⟨b, 0, none⟩)) {ob : Option Nat} {n cap : Nat} {cur : Array Value} {xs : List UInt8} (O : Own ob n cap cur 1 (Lib.byteCells xs))
    (i j : Nat) (hij : i ≠ j) (hi : l[i]? = some (some b, #[p, slv ob n cap], 76)) (hj : l[j]? = some (ob, cur, 5))
    (hg : Region.wanted o (yielded ops a.tmps) = true) (h : (execOp a.eval o).run Try.prog w = .ok (.enter 54 #[.pointer (some ⟨b, 0, none⟩)]) w)
    (hr : ∀ w', Mem [] W w' [] → wpList Try.prog ops Q rest (a.put o.dst (.string (bs xs))) w') : wpList Try.prog ops Q (o :: rest) a w :=
  wl hg fun K hK => by
    unfold Oper.wp; rw [h]
    refine Calls.mono (string_c M hp O i j hij hi hj) fun e w' ⟨he, M'⟩ => ?_
    subst he
    exact hK _ _ (hr _ M')
end
/-! ### Faults -/
abbrev F3 := BitVec 64 × BitVec 64 × BitVec 64
def rowF (f : F3) : List Value := [.int .i64 (s f.1), .int .i64 (s f.2.1), .int .u64 (u f.2.2)]
def cellsL (fs : List F3) : List Value := fs.flatMap rowF
def lineL (f : F3) : List UInt8 := nmL (s f.2.1) ++ [32] ++ wholeL f.1 ++ [32] ++ dig f.2.2.toNat ++ [10]
def textL (fs : List F3) : List UInt8 := fs.flatMap lineL
theorem take_succ_of {α : Type} {fs : List α} {i : Nat} {f : α} (h : fs[i]? = some f) : fs.take (i + 1) = fs.take i ++ [f] := by
  rw [List.take_add_one, h]; rfl
theorem textL_succ {fs : List F3} {i : Nat} {f : F3} (h : fs[i]? = some f) : textL (fs.take (i + 1)) = textL (fs.take i) ++ lineL f := by
  rw [take_succ_of h]; simp [textL]
theorem cellsL_succ {fs : List F3} {i : Nat} {f : F3} (h : fs[i]? = some f) : cellsL (fs.take (i + 1)) = cellsL (fs.take i) ++ rowF f := by
  rw [take_succ_of h]; simp [cellsL]
theorem line_len (f : F3) : (lineL f).length ≤ 60 := by
  unfold lineL
  have h1 := nm_len (s f.2.1)
  have h2 := whole_len f.1
  have h3 := dig20 f.2.2.toNat f.2.2.isLt
  simp only [List.length_append, List.length_cons, List.length_nil]
  omega
theorem text_len (fs : List F3) : (textL fs).length ≤ 60 * fs.length := by
  induction fs with
  | nil => simp [textL]
  | cons f fs ih =>
    have := line_len f
    have e : textL (f :: fs) = lineL f ++ textL fs := by simp [textL]
    rw [e, List.length_append, List.length_cons]
    omega
/-- Where a slice's faults lie. -/
def At (W : World) (b off : Nat) (fs : List F3) : Prop := b < W.heap.size ∧ ∀ i f, fs[i]? = some f → W.rangeAt b (off + i * 3) (rowF f)
theorem at_later {W w : World} {l : List (Option Nat × Array Value × TypeId)} {b off : Nat} {fs : List F3} (h : At W b off fs) (M : Mem [] W w l) {i : Nat} {f : F3} (hf : fs[i]? = some f) : w.rangeAt b (off + i * 3) (rowF f) := by
  intro j v hv
  have h1 := h.2 i f hf j v hv
  have h2 := M.kept b h.1 (by simp)
  rw [← h1]
  exact World.cell?_of_block (w := W) h2
theorem ld_row {P : Program} {W w : World} {l : List (Option Nat × Array Value × TypeId)} {b off : Nat} {fs : List F3} (h : At W b off fs) (M : Mem [] W w l) {i : Nat} {f : F3} (hf : fs[i]? = some f) (ty : TypeId) (d : TypeDesc) (hu : P.underlying ty = some d) (hd : d.isRow = true) (hi : (P.info? ty).map (·.size) = some 3) :
    (Canon.ldS ty (.pointer (some ⟨b, off + i * 3, none⟩))).run P w = .ok (.value (.agg #[.int .i64 (s f.1), .int .i64 (s f.2.1), .int .u64 (u f.2.2)])) w := by
  have h1 := run_loadAt_mid (P := P) w b (off + i * 3) ty (rowF f) d (at_later h M hf) hu hd hi
  unfold Canon.ldS
  simp only [Sem.run_bind, h1, Result.andThen_ok]
  rfl
theorem ld_part {P : Program} {W w : World} {l : List (Option Nat × Array Value × TypeId)} {b off : Nat} {fs : List F3} (h : At W b off fs) (M : Mem [] W w l) {i : Nat} {f : F3} (hf : fs[i]? = some f) (j : Nat) (v : Value) (hv : (rowF f)[j]? = some v) (ty : TypeId) (d : TypeDesc) (hu : P.underlying ty = some d) (hd : d.isRow = false) :
    (Canon.ldS ty (.pointer (some ⟨b, off + i * 3 + j, none⟩))).run P w = .ok (.value v) w := by
  have hc := at_later h M hf j v hv
  have hagg : (isAgg ty).run P w = .ok false w := by
    unfold isAgg
    rw [Sem.run_bind, run_underlying hu w]
    cases d <;> simp_all
  unfold Canon.ldS
  simp only [Instr.loadAt, Instr.sureAddr, loadVar, Sem.run_bind, Sem.run_pure, Result.andThen_ok, hagg, Bool.false_eq_true, if_false]
  have : (load ⟨b, off + i * 3 + j, none⟩).run P w = .ok v w := by simp [load, Sem.run, hc]
  rw [this]; rfl
end Go.Proofs.Ytfhigpmpngfkbaa.Aud
