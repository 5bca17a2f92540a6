/- Steps of a walk, one operation each, with the memory as a list of known blocks. No program in sight. -/
import Derived.Test.YtfhigpmpngfkbaaCanonT
import Derived.Laws.CopyRow
import Derived.Deep.WholeRow
import Derived.Deep.MidRow
import Derived.WalkKit
import Derived.LoopN
import Derived.Deep.QuietTactic
namespace Go.Proofs.Ytfhigpmpngfkbaa.Kw
open Go Go.RowKit
section
variable {P : Program} {ops : Array Oper} {Q : Exit → Act → World → Prop}
/-- From the world W on: the blocks S alone of those that were there may have changed; the blocks of l hold what it says. -/
structure Mem (S : List Nat) (W w : World) (l : List (Nat × Array Value × TypeId)) : Prop where
  os : w.os = W.os
  tape : w.tape = W.tape
  output : w.output = W.output
  size : W.heap.size ≤ w.heap.size
  kept : ∀ k, k < W.heap.size → k ∉ S → w.heap[k]? = W.heap[k]?
  at_ : ∀ p ∈ l, w.heap[p.1]? = some (.cells p.2.1 p.2.2 (0, 0))
  own : ∀ p ∈ l, p.1 ∈ S ∨ W.heap.size ≤ p.1
  apart : l.Pairwise (fun p q => p.1 ≠ q.1)
variable {S : List Nat} {W w w' : World} {l : List (Nat × Array Value × TypeId)}
theorem Mem.start (S : List Nat) (W : World) : Mem S W W [] := ⟨rfl, rfl, rfl, Nat.le_refl _, fun _ _ _ => rfl, fun _ h => (nomatch h), fun _ h => (nomatch h), .nil⟩
theorem Mem.begin1 {W : World} {b : Nat} {cs : Array Value} {t : TypeId} (h : W.heap[b]? = some (.cells cs t (0, 0))) : Mem [b] W W [(b, cs, t)] :=
  ⟨rfl, rfl, rfl, Nat.le_refl _, fun _ _ _ => rfl, fun p hp => (by obtain rfl := List.mem_singleton.1 hp; exact h), fun p hp => (by obtain rfl := List.mem_singleton.1 hp; exact .inl List.mem_cons_self), List.pairwise_singleton _ _⟩
theorem mem_below (h : Mem [] W w l) : Below W.heap.size W w := ⟨h.os, h.tape, h.output, h.size, fun k hk => h.kept k hk (by simp)⟩
theorem of_below (h : Below W.heap.size W w) : Mem [] W w [] := ⟨h.os, h.tape, h.output, h.size, fun k hk _ => h.block k hk, fun _ h => (nomatch h), fun _ h => (nomatch h), .nil⟩
theorem Mem.drew (h : Mem S W w l) : Mem S W w.drew l := ⟨h.os, h.tape, h.output, h.size, h.kept, h.at_, h.own, h.apart⟩
theorem Mem.drew' (h : Mem S W w l) : Mem S W { w with drawn := w.drawn + 1 } l := h.drew
theorem Mem.drop (h : Mem S W w l) : Mem S W w [] := ⟨h.os, h.tape, h.output, h.size, h.kept, fun _ h => (nomatch h), fun _ h => (nomatch h), .nil⟩
theorem Mem.get (h : Mem S W w l) (i : Nat) {b : Nat} {cs : Array Value} {t : TypeId} (hi : l[i]? = some (b, cs, t)) : w.heap[b]? = some (.cells cs t (0, 0)) := h.at_ _ (List.mem_of_getElem? hi)
theorem Mem.lt (h : Mem S W w l) (i : Nat) {b : Nat} {cs : Array Value} {t : TypeId} (hi : l[i]? = some (b, cs, t)) : b < w.heap.size := by
  have := h.get i hi
  rcases Nat.lt_or_ge b w.heap.size with h1 | h1
  · exact h1
  · rw [Array.getElem?_eq_none h1] at this; cases this
theorem lt_of {b : Nat} {o : Obj} (h : w.heap[b]? = some o) : b < w.heap.size := by
  rcases Nat.lt_or_ge b w.heap.size with h1 | h1
  · exact h1
  · rw [Array.getElem?_eq_none h1] at h; cases h
theorem Mem.alloc (h : Mem S W w l) (cs : Array Value) (t : TypeId) : Mem S W (w.alloc (.cells cs t)) ((w.heap.size, cs, t) :: l) := by
  refine ⟨h.os, h.tape, h.output, Nat.le_trans h.size (by simp), fun k hk hS => ?_, fun p hp => ?_, fun p hp => ?_, ?_⟩
  · rw [Below.heap_alloc _ _ _ (Nat.lt_of_lt_of_le hk h.size)]; exact h.kept k hk hS
  · rcases List.mem_cons.1 hp with rfl | hp
    · exact Array.getElem?_push_size
    · rw [Below.heap_alloc _ _ _ (lt_of (h.at_ p hp))]; exact h.at_ p hp
  · rcases List.mem_cons.1 hp with rfl | hp
    · exact .inr h.size
    · exact h.own p hp
  · refine List.pairwise_cons.2 ⟨fun p hp => ?_, h.apart⟩
    have := lt_of (h.at_ p hp)
    show w.heap.size ≠ p.1
    omega
/-- A call that changes nothing that was there. -/
theorem Mem.call (h : Mem S W w l) (hc : Mem [] w w' []) : Mem S W w' l :=
  ⟨hc.os.trans h.os, hc.tape.trans h.tape, hc.output.trans h.output, Nat.le_trans h.size hc.size,
   fun k hk hS => (hc.kept k (Nat.lt_of_lt_of_le hk h.size) (by simp)).trans (h.kept k hk hS),
   fun p hp => (hc.kept p.1 (lt_of (h.at_ p hp)) (by simp)).trans (h.at_ p hp), h.own, h.apart⟩
theorem Mem.callB (h : Mem S W w l) (hc : Below w.heap.size w w') : Mem S W w' l := h.call (of_below hc)
theorem Mem.callD (h : Mem S W w l) (hc : ∃ n, w' = w.drewN n) : Mem S W w' l := by
  obtain ⟨n, rfl⟩ := hc
  exact ⟨h.os, h.tape, h.output, h.size, h.kept, h.at_, h.own, h.apart⟩
theorem set_mem {α : Type} {l : List α} {i : Nat} {x p : α} (h : p ∈ l.set i x) : p = x ∨ ∃ j, j ≠ i ∧ l[j]? = some p := by
  obtain ⟨j, hj⟩ := List.getElem?_of_mem h
  by_cases e : i = j
  · subst e
    left
    rw [List.getElem?_set] at hj
    simp at hj
    exact hj.2.symm
  · right
    rw [List.getElem?_set_ne e] at hj
    exact ⟨j, Ne.symm e, hj⟩
theorem apart_of {l : List (Nat × Array Value × TypeId)} (h : l.Pairwise (fun p q => p.1 ≠ q.1)) {i j : Nat} (hne : i ≠ j) {p q : Nat × Array Value × TypeId} (hi : l[i]? = some p) (hj : l[j]? = some q) : p.1 ≠ q.1 := by
  rw [List.pairwise_iff_getElem] at h
  obtain ⟨hi', hi2⟩ := List.getElem?_eq_some_iff.1 hi
  obtain ⟨hj', hj2⟩ := List.getElem?_eq_some_iff.1 hj
  rcases Nat.lt_or_gt_of_ne hne with h1 | h1
  · have := h i j hi' hj' h1; rw [hi2, hj2] at this; exact this
  · have := h j i hj' hi' h1; rw [hi2, hj2] at this; exact this.symm
/-- A block of the list has changed, no other one. -/
theorem Mem.change (h : Mem S W w l) (i : Nat) {b : Nat} {cs : Array Value} {t : TypeId} (hi : l[i]? = some (b, cs, t)) (cs' : Array Value) (t' : TypeId)
    (hc : Mem [b] w w' [(b, cs', t')]) : Mem S W w' (l.set i (b, cs', t')) := by
  have hb := lt_of (h.get i hi)
  have hown := h.own _ (List.mem_of_getElem? hi)
  refine ⟨hc.os.trans h.os, hc.tape.trans h.tape, hc.output.trans h.output, Nat.le_trans h.size hc.size, fun k hk hS => ?_, fun p hp => ?_, fun p hp => ?_, ?_⟩
  · have hne : k ≠ b := by
      rintro rfl
      rcases hown with h1 | h1
      · exact hS h1
      · exact absurd hk (Nat.not_lt.2 h1)
    exact (hc.kept k (Nat.lt_of_lt_of_le hk h.size) (by simpa using hne)).trans (h.kept k hk hS)
  · rcases set_mem hp with rfl | ⟨j, hj, hp⟩
    · exact hc.at_ _ List.mem_cons_self
    · have hne := apart_of h.apart hj hp hi
      exact (hc.kept p.1 (lt_of (h.at_ p (List.mem_of_getElem? hp))) (by simpa using hne)).trans (h.at_ p (List.mem_of_getElem? hp))
  · rcases set_mem hp with rfl | ⟨j, hj, hp⟩
    · exact hown
    · exact h.own p (List.mem_of_getElem? hp)
  · have hap := h.apart
    rw [List.pairwise_iff_getElem] at hap ⊢
    intro x y hx hy hxy
    rw [List.length_set] at hx hy
    obtain ⟨hi', hi2⟩ := List.getElem?_eq_some_iff.1 hi
    have h1 := hap x y hx hy hxy
    rw [List.getElem_set, List.getElem_set]
    split
    · rename_i e; subst e
      rw [hi2] at h1
      split
      · rename_i e2; omega
      · exact h1
    · split
      · rename_i e2; subst e2; rw [hi2] at h1; exact h1
      · exact h1
theorem mem_setRow {b : Nat} {cs : Array Value} {t : TypeId} (h : w.heap[b]? = some (.cells cs t (0, 0))) (cs' : Array Value) : Mem [b] w (w.setRow b cs') [(b, cs', t)] :=
  ⟨rfl, rfl, rfl, by simp, fun k _ hS => setRow_other w b k cs' (by simpa using hS), fun p hp => (by obtain rfl := List.mem_singleton.1 hp; exact setRow_heap w b cs cs' t (0, 0) h), fun p hp => (by obtain rfl := List.mem_singleton.1 hp; exact .inl List.mem_cons_self), List.pairwise_singleton _ _⟩
/-! ### What loads and stores come to -/
abbrev stS (t : TypeId) (p v : Value) : Sem Next := do Instr.storeAt t p v; Pure.pure .skip
theorem ld_all {b : Nat} {cs : Array Value} {t : TypeId} (ty : TypeId) (h : w.heap[b]? = some (.cells cs t (0, 0))) (d : TypeDesc) (hu : P.underlying ty = some d) (hd : d.isRow = true) (hi : (P.info? ty).map (·.size) = some cs.size) :
    (Canon.ldS ty (.pointer (some ⟨b, 0, none⟩))).run P w = .ok (.value (.agg cs)) w := by
  have h1 := run_loadVar_row (P := P) w b t ty cs (0, 0) d h hu (by cases d <;> first | rfl | cases hd) hi
  unfold Canon.ldS
  simp only [Instr.loadAt, Instr.sureAddr, Sem.run_bind, Sem.run_pure, Result.andThen_ok, h1]
theorem ld_mid {b : Nat} {cs : Array Value} {t : TypeId} (ty : TypeId) (o : Nat) (vs : List Value) (h : w.heap[b]? = some (.cells cs t (0, 0))) (hv : (cs.extract o (o + vs.length)).toList = vs) (d : TypeDesc) (hu : P.underlying ty = some d) (hd : d.isRow = true) (hi : (P.info? ty).map (·.size) = some vs.length) :
    (Canon.ldS ty (.pointer (some ⟨b, o, none⟩))).run P w = .ok (.value (.agg vs.toArray)) w := by
  have h0 := World.rangeAt_of_block h o vs.length
  rw [hv] at h0
  have h1 := run_loadAt_mid (P := P) w b o ty vs d h0 hu hd hi
  unfold Canon.ldS
  simp only [Sem.run_bind, Sem.run_pure, Result.andThen_ok, h1]
theorem ld_cell {b : Nat} {cs : Array Value} {t : TypeId} (ty : TypeId) (o : Nat) (v : Value) (h : w.heap[b]? = some (.cells cs t (0, 0))) (hv : cs[o]? = some v) (d : TypeDesc) (hu : P.underlying ty = some d) (hd : d.isRow = false) :
    (Canon.ldS ty (.pointer (some ⟨b, o, none⟩))).run P w = .ok (.value v) w := by
  have hagg : (isAgg ty).run P w = .ok false w := by
    unfold isAgg
    rw [Sem.run_bind, run_underlying hu w]
    cases d <;> simp_all
  have hc : w.cell? ⟨b, o, none⟩ = some v := by rw [cell_of_row w b o cs t (0, 0) h]; exact hv
  unfold Canon.ldS
  simp only [Instr.loadAt, Instr.sureAddr, loadVar, Sem.run_bind, Sem.run_pure, Result.andThen_ok, hagg, Bool.false_eq_true, if_false]
  have : (load ⟨b, o, none⟩).run P w = .ok v w := by simp [load, Sem.run, hc]
  rw [this]; rfl
theorem lv_cell {b : Nat} {cs : Array Value} {t : TypeId} (ty : TypeId) (o : Nat) (v : Value) (h : w.heap[b]? = some (.cells cs t (0, 0))) (hv : cs[o]? = some v) (d : TypeDesc) (hu : P.underlying ty = some d) (hd : d.isRow = false) :
    (loadVar ty ⟨b, o, none⟩).run P w = .ok v w := by
  have hagg : (isAgg ty).run P w = .ok false w := by
    unfold isAgg
    rw [Sem.run_bind, run_underlying hu w]
    cases d <;> simp_all
  have hc : w.cell? ⟨b, o, none⟩ = some v := by rw [cell_of_row w b o cs t (0, 0) h]; exact hv
  simp only [loadVar, Sem.run_bind, Result.andThen_ok, hagg, Bool.false_eq_true, if_false]
  simp [load, Sem.run, hc]
theorem st_at {b : Nat} {cs : Array Value} {t : TypeId} (ty : TypeId) (o : Nat) (v : Value) (cs' : Array Value) (h : w.heap[b]? = some (.cells cs t (0, 0))) (hle : o + v.cells.size ≤ cs.size) (hi : (P.info? ty).map (·.size) = some v.cells.size) (h1 : v.cells.all (·.oneCell') = true)
    (hcs : (cs.toList.take o ++ v.cells.toList ++ cs.toList.drop (o + v.cells.size)).toArray = cs') : (stS ty (.pointer (some ⟨b, o, none⟩)) v).run P w = .ok .skip (w.setRow b cs') := by
  cases hq : P.info? ty with
  | none => simp [hq] at hi
  | some i =>
    have hs : v.cells.size = i.size := by simp [hq] at hi; omega
    have hst := run_storeCells_at (P := P) b o t v.cells.toList 0 cs w h (by simpa using hle) (by
      intro x hx
      rw [Array.all_eq_true_iff_forall_mem] at h1
      exact h1 x (by simpa using hx))
    simp only [Nat.add_zero, Array.length_toList] at hst
    rw [hcs] at hst
    unfold stS
    simp [Instr.storeAt, Instr.sureAddr, storeVar, sizeOf, typeInfo, Sem.run_bind, hq, hs, hst]
theorem st_cell {b : Nat} {cs : Array Value} {t : TypeId} (ty : TypeId) (o : Nat) (v : Value) (h : w.heap[b]? = some (.cells cs t (0, 0))) (hle : o < cs.size) (hi : (P.info? ty).map (·.size) = some 1) (hv : v.cells = #[v]) (h1 : v.oneCell' = true) :
    (stS ty (.pointer (some ⟨b, o, none⟩)) v).run P w = .ok .skip (w.setRow b (cs.setIfInBounds o v)) := by
  refine st_at ty o v _ h (by rw [hv]; exact hle) (by rw [hv]; exact hi) (by rw [hv]; simpa using h1) ?_
  rw [hv]
  apply Array.ext'
  rw [Array.toList_setIfInBounds, List.set_eq_take_append_cons_drop]
  have : o < cs.toList.length := by simpa using hle
  rw [if_pos this]
  simp
theorem st_all {b : Nat} {cs : Array Value} {t : TypeId} (ty : TypeId) (vs : Array Value) (h : w.heap[b]? = some (.cells cs t (0, 0))) (hsz : cs.size = vs.size) (hi : (P.info? ty).map (·.size) = some vs.size) (h1 : vs.all (·.oneCell') = true) :
    (stS ty (.pointer (some ⟨b, 0, none⟩)) (.agg vs)).run P w = .ok .skip (w.setRow b vs) := by
  refine st_at ty 0 (.agg vs) _ h (by show 0 + vs.size ≤ _; omega) hi h1 ?_
  show (cs.toList.take 0 ++ vs.toList ++ cs.toList.drop (0 + vs.size)).toArray = vs
  rw [List.take_zero, List.nil_append, List.drop_of_length_le (by simp; omega), List.append_nil]
theorem eqv {s : Sem Next} {v v' : Value} (h : s.run P w = .ok (.value v) w) (e : v = v') : s.run P w = .ok (.value v') w := by rw [← e]; exact h
theorem not_true {b : Bool} (h : (!b) = true) : b = false := by cases b <;> simp_all
theorem not_false {b : Bool} (h : (!b) = false) : b = true := by cases b <;> simp_all
abbrev ixS (t : TypeId) (x i : Value) : Sem Next := do Pure.pure (.value (← Instr.index t x i))
/-! ### Steps of a region in the order of its text -/
variable {o : Oper} {rest : List Oper} {a : Act}
theorem wl (hg : Region.wanted o (yielded ops a.tmps) = true) (h : ∀ K : Act → World → Prop, (∀ a w, wpList P ops Q rest a w → K a w) → o.wp P a w K Q) : wpList P ops Q (o :: rest) a w :=
  wpList_step fun K hK => by rw [if_pos hg]; exact h K hK
theorem pure (v : Value) (hg : Region.wanted o (yielded ops a.tmps) = true) (h : (execOp a.eval o).run P w = .ok (.value v) w) (hr : wpList P ops Q rest (a.put o.dst v) w) : wpList P ops Q (o :: rest) a w :=
  wl hg fun K hK => by unfold Oper.wp; rw [h]; exact hK _ _ hr
theorem pureS (s : Sem Next) (v : Value) (hg : Region.wanted o (yielded ops a.tmps) = true) (hs : execOp a.eval o = s) (h : s.run P w = .ok (.value v) w) (hr : wpList P ops Q rest (a.put o.dst v) w) : wpList P ops Q (o :: rest) a w :=
  pure v hg (by rw [hs]; exact h) hr
theorem skip (hg : Region.wanted o (yielded ops a.tmps) = false) (hr : wpList P ops Q rest (a.put o.dst undef) w) : wpList P ops Q (o :: rest) a w :=
  wpList_step fun K hK => by rw [if_neg (by rw [hg]; exact Bool.false_ne_true)]; exact hK _ _ hr
theorem alloc (cs : Array Value) (T : TypeId) (M : Mem S W w l) (hg : Region.wanted o (yielded ops a.tmps) = true) (h : (execOp a.eval o).run P w = .ok (.value (.pointer (some ⟨w.heap.size, 0, none⟩))) (w.alloc (.cells cs T)))
    (hr : ∀ w' B, Mem S W w' ((B, cs, T) :: l) → wpList P ops Q rest (a.put o.dst (.pointer (some ⟨B, 0, none⟩))) w') : wpList P ops Q (o :: rest) a w :=
  wl hg fun K hK => by unfold Oper.wp; rw [h]; exact hK _ _ (hr _ _ (M.alloc cs T))
theorem allocV (v : Nat → Value) (cs : Array Value) (T : TypeId) (M : Mem S W w l) (hg : Region.wanted o (yielded ops a.tmps) = true) (h : (execOp a.eval o).run P w = .ok (.value (v w.heap.size)) (w.alloc (.cells cs T)))
    (hr : ∀ w' B, Mem S W w' ((B, cs, T) :: l) → wpList P ops Q rest (a.put o.dst (v B)) w') : wpList P ops Q (o :: rest) a w :=
  wl hg fun K hK => by unfold Oper.wp; rw [h]; exact hK _ _ (hr _ _ (M.alloc cs T))
theorem store (s : Sem Next) (i : Nat) {b : Nat} {cs : Array Value} {t : TypeId} (cs' : Array Value) (M : Mem S W w l) (hi : l[i]? = some (b, cs, t)) (hg : Region.wanted o (yielded ops a.tmps) = true) (hs : execOp a.eval o = s) (h : w.heap[b]? = some (.cells cs t (0, 0)) → s.run P w = .ok .skip (w.setRow b cs'))
    (hr : ∀ w', Mem S W w' (l.set i (b, cs', t)) → wpList P ops Q rest (a.put o.dst undef) w') : wpList P ops Q (o :: rest) a w :=
  wl hg fun K hK => by unfold Oper.wp; rw [hs, h (M.get i hi)]; exact hK _ _ (hr _ (M.change i hi cs' t (mem_setRow (M.get i hi) cs')))
theorem call (v : Value) (f : FuncId) (args : Array Value) (M : Mem S W w l) (hg : Region.wanted o (yielded ops a.tmps) = true) (h : (execOp a.eval o).run P w = .ok (.enter f args) w)
    (hc : Calls P f args w fun e w' => e = .returned v ∧ Mem [] w w' []) (hr : ∀ w', Mem S W w' l → wpList P ops Q rest (a.put o.dst v) w') : wpList P ops Q (o :: rest) a w :=
  wl hg fun K hK => by
    unfold Oper.wp; rw [h]
    refine Calls.mono hc fun e w' ⟨he, hm⟩ => ?_
    subst he
    exact hK _ _ (hr _ (M.call hm))
/-- A call that changes one block of the list. -/
theorem callC (v : Value) (f : FuncId) (args : Array Value) (i : Nat) {b : Nat} {cs : Array Value} {t : TypeId} (cs' : Array Value) (M : Mem S W w l) (hi : l[i]? = some (b, cs, t)) (hg : Region.wanted o (yielded ops a.tmps) = true) (h : (execOp a.eval o).run P w = .ok (.enter f args) w)
    (hc : w.heap[b]? = some (.cells cs t (0, 0)) → Calls P f args w fun e w' => e = .returned v ∧ Mem [b] w w' [(b, cs', t)]) (hr : ∀ w', Mem S W w' (l.set i (b, cs', t)) → wpList P ops Q rest (a.put o.dst v) w') : wpList P ops Q (o :: rest) a w :=
  wl hg fun K hK => by
    unfold Oper.wp; rw [h]
    refine Calls.mono (hc (M.get i hi)) fun e w' ⟨he, hm⟩ => ?_
    subst he
    exact hK _ _ (hr _ (M.change i hi cs' t hm))
theorem storeCell (i : Nat) {b : Nat} {cs : Array Value} {t : TypeId} (ty : TypeId) (k : Nat) (v : Value) (cs' : Array Value) (M : Mem S W w l) (hi : l[i]? = some (b, cs, t)) (hg : Region.wanted o (yielded ops a.tmps) = true) (hs : execOp a.eval o = stS ty (.pointer (some ⟨b, k, none⟩)) v)
    (hle : k < cs.size) (hz : (P.info? ty).map (·.size) = some 1) (hv : v.cells = #[v]) (h1 : v.oneCell' = true) (e : cs.setIfInBounds k v = cs') (hr : ∀ w', Mem S W w' (l.set i (b, cs', t)) → wpList P ops Q rest (a.put o.dst undef) w') : wpList P ops Q (o :: rest) a w :=
  store _ i cs' M hi hg hs (fun h => by rw [← e]; exact st_cell ty k v h hle hz hv h1) hr
theorem storeAll (i : Nat) {b : Nat} {cs : Array Value} {t : TypeId} (ty : TypeId) (vs : Array Value) (M : Mem S W w l) (hi : l[i]? = some (b, cs, t)) (hg : Region.wanted o (yielded ops a.tmps) = true) (hs : execOp a.eval o = stS ty (.pointer (some ⟨b, 0, none⟩)) (.agg vs))
    (hsz : cs.size = vs.size) (hz : (P.info? ty).map (·.size) = some vs.size) (h1 : vs.all (·.oneCell') = true) (hr : ∀ w', Mem S W w' (l.set i (b, vs, t)) → wpList P ops Q rest (a.put o.dst undef) w') : wpList P ops Q (o :: rest) a w :=
  store _ i vs M hi hg hs (fun h => st_all ty vs h hsz hz h1) hr
theorem storeMid (i : Nat) {b : Nat} {cs : Array Value} {t : TypeId} (ty : TypeId) (k : Nat) (v : Value) (cs' : Array Value) (M : Mem S W w l) (hi : l[i]? = some (b, cs, t)) (hg : Region.wanted o (yielded ops a.tmps) = true) (hs : execOp a.eval o = stS ty (.pointer (some ⟨b, k, none⟩)) v)
    (hle : k + v.cells.size ≤ cs.size) (hz : (P.info? ty).map (·.size) = some v.cells.size) (h1 : v.cells.all (·.oneCell') = true) (e : (cs.toList.take k ++ v.cells.toList ++ cs.toList.drop (k + v.cells.size)).toArray = cs') (hr : ∀ w', Mem S W w' (l.set i (b, cs', t)) → wpList P ops Q rest (a.put o.dst undef) w') : wpList P ops Q (o :: rest) a w :=
  store _ i cs' M hi hg hs (fun h => st_at ty k v cs' h hle hz h1 e) hr
/-! ### Control -/
theorem fin (h : Q .normal a w) : wpList P ops Q [] a w := h
theorem to {c : Code} {b : Act} (e : a = b) (h : c.wp P Q b w) : c.wp P Q a w := by rw [e]; exact h
theorem toPost {fn : Func} {R : Ending → World → Prop} {x : Exit} {b : Act} (e : a = b) (h : bodyPost P fn R x b w) : bodyPost P fn R x a w := by rw [e]; exact h
theorem region {id : Nat} (h : wpList P ops Q ops.toList a w) : (Code.region id ops false).wp P Q a w := wp_region_list h
theorem mlt {x y : Nat} (n m : Nat) (hx : x = n) (hy : y = m) (h : n < m) : x < y := by rw [hx, hy]; exact h
theorem round_succ {c : Code} {n : Nat} (h : c.wp P (Exit.then (Code.rounds P c Q n) Q) a w) : Code.rounds P c Q (n + 1) a w := h
theorem then_normal {next : Act → World → Prop} (h : next a w) : Exit.then next Q .normal a w := h
theorem then_exit {next : Act → World → Prop} {id : Nat} (h : Q (.exit id) a w) : Exit.then next Q (.exit id) a w := h
theorem then_ret {next : Act → World → Prop} (h : Q .ret a w) : Exit.then next Q .ret a w := h
theorem block_normal {id : Nat} (h : Q .normal a w) : Exit.inBlock id Q .normal a w := h
theorem block_hit {id : Nat} (h : Q .normal a w) : Exit.inBlock id Q (.exit id) a w := by show (if id = id then Q .normal a w else Q (.exit id) a w); rw [if_pos rfl]; exact h
theorem block_miss {id id' : Nat} (hne : id' ≠ id) (h : Q (.exit id') a w) : Exit.inBlock id Q (.exit id') a w := by show (if id' = id then Q .normal a w else Q (.exit id') a w); rw [if_neg hne]; exact h
theorem block_ret {id : Nat} (h : Q .ret a w) : Exit.inBlock id Q .ret a w := h
end
end Go.Proofs.Ytfhigpmpngfkbaa.Kw
