/- Slices that a walk has made itself, nil or not: what 'append' makes of them. No program in sight. -/
import Derived.Test.YtfhigpmpngfkbaaK2
import Derived.OwnWalk
import Derived.Laws.AppendOwn
namespace Go.Proofs.Ytfhigpmpngfkbaa.KO
open Go Go.RowKit Go.Proofs.Ytfhigpmpngfkbaa.K2
set_option linter.unusedVariables false
/-- A slice of its own block from the first cell on, or nil. -/
def slv (ob : Option Nat) (n cap : Nat) : Value := match ob with
  | none => .slice none 0 0
  | some B => .slice (some ⟨B, 0, none⟩) n cap
/-- What such a slice holds. -/
structure Own (ob : Option Nat) (n cap : Nat) (cur : Array Value) (size : Nat) (xs : List Value) : Prop where
  nil : ob = none → n = 0
  le : n ≤ cap
  mx : cap ≤ maxLen
  sz : cur.size = cap * size
  len : xs.length = n * size
  take : cur.toList.take (n * size) = xs
theorem own_nil (size : Nat) : Own none 0 0 #[] size [] := ⟨fun _ => rfl, Nat.le_refl _, Nat.zero_le _, by simp, by simp, by simp⟩
theorem own_lit (B m : Nat) (cs : Array Value) (size : Nat) (h1 : m ≤ maxLen) (h2 : 0 < size) (h3 : cs.size = m * size) : Own (some B) m m cs size cs.toList :=
  ⟨fun h => (by cases h), Nat.le_refl _, h1, h3, by simpa using h3, by rw [← h3]; exact List.take_of_length_le (by simp)⟩
variable {P : Program} {S : List Nat} {W w : World} {l : List (Option Nat × Array Value × TypeId)}
theorem mem_sub (h : Mem S W w l) {l' : List (Option Nat × Array Value × TypeId)} (hs : l'.Sublist l) : Mem S W w l' :=
  ⟨h.os, h.tape, h.output, h.size, h.kept, fun p hp => h.at_ p (hs.subset hp), fun p hp => h.own p (hs.subset hp), h.apart.sublist hs⟩
theorem mem_erase (h : Mem S W w l) (i : Nat) : Mem S W w (l.eraseIdx i) := mem_sub h (List.eraseIdx_sublist l i)
theorem mem_front (h : Mem S W w l) (i : Nat) {p : Option Nat × Array Value × TypeId} (hi : l[i]? = some p) : Mem S W w (p :: l.eraseIdx i) := by
  have he := mem_erase h i
  have hp := List.mem_of_getElem? hi
  refine ⟨h.os, h.tape, h.output, h.size, h.kept, fun q hq => ?_, fun q hq => ?_, List.pairwise_cons.2 ⟨fun q hq => ?_, he.apart⟩⟩
  · rcases List.mem_cons.1 hq with rfl | hq
    · exact h.at_ _ hp
    · exact he.at_ q hq
  · rcases List.mem_cons.1 hq with rfl | hq
    · exact h.own _ hp
    · exact he.own q hq
  · obtain ⟨j, hj, hjq⟩ := List.mem_eraseIdx_iff_getElem?.1 hq
    exact fun b hb => apart_of h.apart (Ne.symm hj) hi hjq b hb
theorem mem_nil (h : Mem S W w l) (t : TypeId) : Mem S W w ((none, #[], t) :: l) :=
  ⟨h.os, h.tape, h.output, h.size, h.kept, fun p hp b hb => (by rcases List.mem_cons.1 hp with rfl | hp; { cases hb }; { exact h.at_ p hp b hb }), fun p hp b hb => (by rcases List.mem_cons.1 hp with rfl | hp; { cases hb }; { exact h.own p hp b hb }), List.pairwise_cons.2 ⟨fun p hp b hb => (by cases hb), h.apart⟩⟩
theorem set_erase {α : Type} (l : List α) (i : Nat) (x : α) : (l.set i x).eraseIdx i = l.eraseIdx i := by
  induction l generalizing i with
  | nil => simp
  | cons a l ih => cases i <;> simp [ih]
/-- The cells of a slice that holds something: where they are. -/
theorem own_cells {ob : Option Nat} {n cap : Nat} {cur : Array Value} {size : Nat} {xs : List Value} (O : Own ob n cap cur size xs) {B : Nat} {e : TypeId} (hB : w.heap[B]? = some (.cells cur e (0, 0))) : ∀ j u, xs[j]? = some u → w.cell? ((⟨B, 0, none⟩ : Addr).add j) = some u := by
  intro j u hj
  rw [← O.take, List.getElem?_take] at hj
  split at hj
  · rw [Addr.add_lit, Nat.zero_add, cell_of_row w B j cur e (0, 0) hB, ← Array.getElem?_toList]; exact hj
  · cases hj
/-- 'append' of what another block holds. -/
theorem app (t ty e : TypeId) (i : TypeInfo) (z : Value) (ht : P.underlying t = some (.slice e)) (hi : P.info? e = some i) (hz : i.zero = some z) (hzs : z.cells.size = i.size) (hsz : 0 < i.size)
    {ob : Option Nat} {n cap : Nat} {cur : Array Value} {xs : List Value} (O : Own ob n cap cur i.size xs) (M : Mem S W w l) (k : Nat) (hk : l[k]? = some (ob, cur, e))
    (a : Addr) (m c : Nat) (news : List Value) (hl : news.length = m * i.size) (hnews : ∀ j u, news[j]? = some u → w.cell? (a.add j) = some u) (h1 : ∀ u ∈ news, u.oneCell' = true)
    (h63 : n + m ≤ maxLen) (hbytes : (n + m) * i.bytes ≤ 140737488355328) :
    ∃ ob' cap' cur' w', (Builtin.append_ #[t, t] ty #[slv ob n cap, .slice (some a) m c]).run P w = .ok (slv ob' (n + m) cap') w' ∧ Own ob' (n + m) cap' cur' i.size (xs ++ news) ∧ Mem S W w' ((ob', cur', e) :: l.eraseIdx k) := by
  have hlen : (xs ++ news).length = (n + m) * i.size := by rw [List.length_append, O.len, hl, Nat.add_mul]
  have hsmall : n + m ≤ 9223372036854775807 := by simp only [maxLen] at h63; omega
  have grown : ∀ old, old < n + m → ∀ B, B = w.heap.size → Own (some B) (n + m) (grownCap w (n + m) old e) (xs.toArray ++ news.toArray ++ Builtin.zeroCells z.cells (grownCap w (n + m) old e - (n + m))) i.size (xs ++ news) ∧
      Mem S W (w.drew.alloc (.cells (xs.toArray ++ news.toArray ++ Builtin.zeroCells z.cells (grownCap w (n + m) old e - (n + m))) e)) ((some B, xs.toArray ++ news.toArray ++ Builtin.zeroCells z.cells (grownCap w (n + m) old e - (n + m)), e) :: l.eraseIdx k) := by
    intro old ho B hB
    have hge := grownCap_ge w (n + m) old e
    have hcm : grownCap w (n + m) old e ≤ maxLen := grownCap_le_maxLen w (n + m) old e h63
    refine ⟨⟨fun h => (by cases h), hge, hcm, ?_, hlen, ?_⟩, ?_⟩
    · simp only [Array.size_append, List.size_toArray, size_zeroCells, hzs, O.len, hl, ← Nat.add_mul]
      congr 1
      omega
    · simp only [Array.toList_append, List.append_assoc]
      rw [← List.append_assoc, ← hlen]
      exact List.take_left
    · subst hB; exact (mem_erase M k).drew.alloc _ _
  cases ob with
  | none =>
    obtain rfl := O.nil rfl
    have hx : xs = [] := List.eq_nil_of_length_eq_zero (by simpa using O.len)
    subst hx
    by_cases hm : m = 0
    · subst hm
      have hn : news = [] := List.eq_nil_of_length_eq_zero (by simpa using hl)
      subst hn
      refine ⟨none, cap, cur, w, ?_, ?_, mem_front M k hk⟩
      · simp [slv, Builtin.append_, run_underlying ht, sizeOf, typeInfo, hi, Builtin.lenOf, Builtin.firstCells, loadCells, loadCellsFrom]
      · simpa using O
    · have hr := run_append_nil (P := P) w t ty e i z ht hi hz a m c news hl hnews (by omega) (by omega) (by have hb := hbytes; simp only [Nat.zero_add] at hb; omega)
      have hg := grown 0 (by omega) _ rfl
      simp only [Nat.zero_add, List.nil_append, Array.empty_append] at hg ⊢
      exact ⟨some w.heap.size, _, _, _, hr, hg.1, hg.2⟩
  | some B =>
    have hB := M.get k hk
    by_cases hroom : n + m ≤ cap
    · have hfit : n * i.size + news.length ≤ cur.size := by rw [hl, O.sz, ← Nat.add_mul]; exact Nat.mul_le_mul_right _ hroom
      have hr := run_append_room (P := P) w t ty e i ht hi B n cap cur hB a m c news hl hnews h1 hroom hfit
      refine ⟨some B, cap, (cur.toList.take (n * i.size) ++ news ++ cur.toList.drop (n * i.size + news.length)).toArray, _, hr, ⟨fun h => (by cases h), hroom, O.mx, ?_, hlen, ?_⟩, ?_⟩
      · have h1' := O.sz
        simp only [List.size_toArray, List.length_append, List.length_take, List.length_drop, Array.length_toList]
        omega
      · simp only []
        rw [O.take, ← hlen]
        exact List.take_left
      · have h2 := M.change k hk _ e (mem_setRow hB (cur.toList.take (n * i.size) ++ news ++ cur.toList.drop (n * i.size + news.length)).toArray)
        have hks : (l.set k (some B, (cur.toList.take (n * i.size) ++ news ++ cur.toList.drop (n * i.size + news.length)).toArray, e))[k]? = some (some B, (cur.toList.take (n * i.size) ++ news ++ cur.toList.drop (n * i.size + news.length)).toArray, e) :=
          List.getElem?_set_self (List.getElem?_eq_some_iff.1 hk).1
        have h3 := mem_front h2 k hks
        rw [set_erase] at h3
        exact h3
    · have hr := run_append_grow (P := P) w t ty e i z ht hi hz ⟨B, 0, none⟩ n cap xs O.len (own_cells O hB) a m c news hl hnews (by omega) (by omega) (growslice_fits (by omega) hbytes)
      have hg := grown cap (by omega) _ rfl
      exact ⟨some w.heap.size, _, _, _, hr, hg.1, hg.2⟩
/-! ### Steps -/
variable {ops : Array Oper} {Q : Exit → Act → World → Prop} {o : Oper} {rest : List Oper} {a : Act}
abbrev apS (t : TypeId) (ty : TypeId) (s x : Value) : Sem Next := do Pure.pure (.value (← Builtin.append_ #[t, t] ty #[s, x]))
/-- 'append(s, x...)' where x is a block of the list, known whole. -/
theorem appB (t ty e size bytes : Nat) (z : Value) (ht : P.underlying t = some (.slice e)) (hinf : (P.info? e).map (fun i => (i.zero, i.size, i.bytes)) = some (some z, size, bytes)) (hzs : z.cells.size = size) (hsz : 0 < size)
    {ob : Option Nat} {n cap : Nat} {cur : Array Value} {xs : List Value} (O : Own ob n cap cur size xs) (M : Mem S W w l) (k : Nat) (hk : l[k]? = some (ob, cur, e))
    (j : Nat) {B : Nat} (m c : Nat) {cs : Array Value} {te : TypeId} (hj : l[j]? = some (some B, cs, te)) (hl : cs.size = m * size) (h1 : cs.all (·.oneCell') = true)
    (h63 : n + m ≤ maxLen) (hbytes : (n + m) * bytes ≤ 140737488355328)
    (hg : Region.wanted o (yielded ops a.tmps) = true) (hx : execOp a.eval o = apS t ty (slv ob n cap) (.slice (some ⟨B, 0, none⟩) m c))
    (hr : ∀ ob' cap' cur' w', Own ob' (n + m) cap' cur' size (xs ++ cs.toList) → Mem S W w' ((ob', cur', e) :: l.eraseIdx k) → wpList P ops Q rest (a.put o.dst (slv ob' (n + m) cap')) w') : wpList P ops Q (o :: rest) a w :=
  wl hg fun K hK => by
    obtain ⟨i, hi, hz, hs, hby⟩ := info_parts hinf
    subst hs
    subst hby
    have hB := M.get j hj
    obtain ⟨ob', cap', cur', w', hrun, O', M'⟩ := app (P := P) t ty e i z ht hi hz hzs hsz O M k hk ⟨B, 0, none⟩ m c cs.toList (by simpa using hl)
      (fun q u hq => by rw [Addr.add_lit, Nat.zero_add, cell_of_row w B q cs te (0, 0) hB, ← Array.getElem?_toList]; exact hq)
      (fun u hu => by rw [Array.all_eq_true_iff_forall_mem] at h1; exact h1 u (by simpa using hu)) h63 hbytes
    unfold Oper.wp
    rw [hx]
    have : (apS t ty (slv ob n cap) (.slice (some ⟨B, 0, none⟩) m c)).run P w = .ok (.value (slv ob' (n + m) cap')) w' := by
      unfold apS
      simp only [Sem.run_bind, hrun, Result.andThen_ok]
      rfl
    rw [this]
    exact hK _ _ (hr _ _ _ _ O' M')
/-- 'append(s, x...)' where x is such a slice, too. -/
theorem appO (t ty e size bytes : Nat) (z : Value) (ht : P.underlying t = some (.slice e)) (hinf : (P.info? e).map (fun i => (i.zero, i.size, i.bytes)) = some (some z, size, bytes)) (hzs : z.cells.size = size) (hsz : 0 < size)
    {ob : Option Nat} {n cap : Nat} {cur : Array Value} {xs : List Value} (O : Own ob n cap cur size xs) (M : Mem S W w l) (k : Nat) (hk : l[k]? = some (ob, cur, e))
    (j : Nat) {ob2 : Option Nat} {m cap2 : Nat} {cur2 : Array Value} {ys : List Value} (O2 : Own ob2 m cap2 cur2 size ys) (hj : l[j]? = some (ob2, cur2, e)) (h1 : ∀ u ∈ ys, u.oneCell' = true)
    (h63 : n + m ≤ maxLen) (hbytes : (n + m) * bytes ≤ 140737488355328)
    (hg : Region.wanted o (yielded ops a.tmps) = true) (hx : execOp a.eval o = apS t ty (slv ob n cap) (slv ob2 m cap2))
    (hr : ∀ ob' cap' cur' w', Own ob' (n + m) cap' cur' size (xs ++ ys) → Mem S W w' ((ob', cur', e) :: l.eraseIdx k) → wpList P ops Q rest (a.put o.dst (slv ob' (n + m) cap')) w') : wpList P ops Q (o :: rest) a w :=
  wl hg fun K hK => by
    obtain ⟨i, hi, hz, hs, hby⟩ := info_parts hinf
    subst hs
    subst hby
    have key : ∃ ob' cap' cur' w', (Builtin.append_ #[t, t] ty #[slv ob n cap, slv ob2 m cap2]).run P w = .ok (slv ob' (n + m) cap') w' ∧ Own ob' (n + m) cap' cur' i.size (xs ++ ys) ∧ Mem S W w' ((ob', cur', e) :: l.eraseIdx k) := by
      cases ob2 with
      | some B => exact app (P := P) t ty e i z ht hi hz hzs hsz O M k hk ⟨B, 0, none⟩ m cap2 ys O2.len (own_cells O2 (M.get j hj)) h1 h63 hbytes
      | none =>
        obtain rfl := O2.nil rfl
        have hy : ys = [] := List.eq_nil_of_length_eq_zero (by simpa using O2.len)
        subst hy
        refine ⟨ob, cap, cur, w, ?_, by simpa using O, mem_front M k hk⟩
        cases ob with
        | none =>
          obtain rfl := O.nil rfl
          simp [slv, Builtin.append_, run_underlying ht, sizeOf, typeInfo, hi, Builtin.lenOf, Builtin.firstCells]
        | some B =>
          have := O.le
          simp [slv, Builtin.append_, run_underlying ht, sizeOf, typeInfo, hi, Builtin.lenOf, Builtin.firstCells, this, storeCells]
    obtain ⟨ob', cap', cur', w', hrun, O', M'⟩ := key
    unfold Oper.wp
    rw [hx]
    have : (apS t ty (slv ob n cap) (slv ob2 m cap2)).run P w = .ok (.value (slv ob' (n + m) cap')) w' := by
      unfold apS
      simp only [Sem.run_bind, hrun, Result.andThen_ok]
      rfl
    rw [this]
    exact hK _ _ (hr _ _ _ _ O' M')
theorem len_slv {ob : Option Nat} {n cap : Nat} {cur : Array Value} {size : Nat} {xs : List Value} (O : Own ob n cap cur size xs) : (Builtin.lenOf (slv ob n cap)).run P w = .ok n w := by
  cases ob with
  | none => obtain rfl := O.nil rfl; rfl
  | some B => rfl
/-- A call that hands back one block, or a slice, or none, of its own. -/
theorem callX {ι : Type} (v : ι → Value) (p : ι → Option Nat × Array Value × TypeId) (R : ι → Prop) (f : FuncId) (args : Array Value) (M : Mem S W w l) (hg : Region.wanted o (yielded ops a.tmps) = true) (h : (execOp a.eval o).run P w = .ok (.enter f args) w)
    (hc : Calls P f args w fun e w' => ∃ x, e = .returned (v x) ∧ R x ∧ Mem [] w w' [p x]) (hr : ∀ w' x, R x → Mem S W w' (p x :: l) → wpList P ops Q rest (a.put o.dst (v x)) w') : wpList P ops Q (o :: rest) a w :=
  wl hg fun K hK => by
    unfold Oper.wp; rw [h]
    refine Calls.mono hc fun e w' ⟨x, he, hR, hm⟩ => ?_
    subst he
    refine hK _ _ (hr _ x hR (M.push hm.drop _ _ _ fun b hb => ⟨?_, hm.at_ _ List.mem_cons_self b hb⟩))
    rcases hm.own _ List.mem_cons_self b hb with h1 | h1
    · cases h1
    · exact h1
end Go.Proofs.Ytfhigpmpngfkbaa.KO
