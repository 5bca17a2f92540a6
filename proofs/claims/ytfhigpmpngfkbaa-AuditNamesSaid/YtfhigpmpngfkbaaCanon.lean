/- A region that draws its order, of which each operation gives one value in each world of one kind, and leaves a world of that kind: it comes to what the order of its text gives. No program in sight. -/
import Derived.Orders
import Derived.Deep.RegionHeld3
namespace Go.Proofs.Ytfhigpmpngfkbaa.Canon
open Go
section
variable {P : Program} {ops : Array Oper} {Q : Exit → Act → World → Prop} {I : World → Prop}
def dstOf (ops : Array Oper) (j : Nat) : Option Tmp := (ops[j]?).bind (·.dst)
/-- Which operation of those that have come up wrote a slot. -/
def wr (ops : Array Oper) (L : Nat → Bool) : Nat → Tmp → Option Nat
  | 0, _ => none
  | k + 1, t => if L k = true ∧ dstOf ops k = some t then some k else wr ops L k t
def fillT (ops : Array Oper) (T : Nat → Value) (L : Nat → Bool) : Nat → Array Value → Array Value
  | 0, tm => tm
  | k + 1, tm => if L k = true then (match dstOf ops k with | some d => (fillT ops T L k tm).setIfInBounds d (T k) | none => fillT ops T L k tm) else fillT ops T L k tm
theorem fill_succ (T : Nat → Value) (L : Nat → Bool) (tm : Array Value) (k : Nat) : fillT ops T L (k + 1) tm = if L k = true then (match dstOf ops k with | some d => (fillT ops T L k tm).setIfInBounds d (T k) | none => fillT ops T L k tm) else fillT ops T L k tm := rfl
theorem fill_size (T : Nat → Value) (L : Nat → Bool) (tm : Array Value) : ∀ k, (fillT ops T L k tm).size = tm.size
  | 0 => rfl
  | k + 1 => by
    unfold fillT
    split
    · split
      · rw [Array.size_setIfInBounds]; exact fill_size T L tm k
      · exact fill_size T L tm k
    · exact fill_size T L tm k
def pickT (T : Nat → Value) (tm : Array Value) (t : Tmp) : Option Nat → Value
  | some j => T j
  | none => tm.getD t undef
theorem fill_get (T : Nat → Value) (L : Nat → Bool) (tm : Array Value) (t : Tmp) : ∀ k, (fillT ops T L k tm)[t]? = if t < tm.size then some (pickT T tm t (wr ops L k t)) else none
  | 0 => by
    unfold fillT wr pickT
    by_cases h : t < tm.size
    · simp [h]
    · simp [h]
  | k + 1 => by
    have ih := fill_get T L tm t k
    have hs := fill_size (ops := ops) T L tm k
    unfold fillT wr
    by_cases hL : L k = true
    · rw [if_pos hL]
      cases hd : dstOf ops k with
      | none => simp only [hL, true_and, reduceCtorEq, if_false]; exact ih
      | some d =>
        simp only [hL, true_and, Option.some.injEq]
        by_cases hdt : d = t
        · subst hdt
          rw [if_pos rfl]
          by_cases hlt : d < tm.size
          · have h2 : d < (fillT ops T L k tm).size := by rw [hs]; exact hlt
            rw [if_pos hlt, Array.getElem?_setIfInBounds_self_of_lt h2]; rfl
          · rw [if_neg hlt, Array.getElem?_eq_none (by rw [Array.size_setIfInBounds, hs]; exact Nat.le_of_not_lt hlt)]
        · rw [if_neg hdt, Array.getElem?_setIfInBounds_ne hdt]; exact ih
    · have h2 : ¬ (L k = true ∧ dstOf ops k = some t) := fun h => hL h.1
      rw [if_neg hL, if_neg h2]; exact ih
theorem ext_get {a b : Array Value} (h : ∀ t : Nat, a[t]? = b[t]?) : a = b := Array.ext_getElem? h
/-- What is asked of the region's text, by reckoning. -/
def pairOk (ops : Array Oper) (i j : Nat) (o p : Oper) : Bool :=
  (i == j || o.dst == none || o.dst != p.dst) &&
  match p.dst with
  | none => true
  | some d => !(o.looksAt ops).contains d || (if j < i then o.after.any (fun e => e.on == j && Region.binds .any e) else j != i && p.after.any (fun e => e.on == i && Region.binds .any e))
def isSelect : Op → Bool
  | .select _ _ => true
  | _ => false
def canonOk (ops : Array Oper) : Bool :=
  ops.toList.zipIdx.all fun (o, i) => !isSelect o.op && o.after.all (fun e => !Region.binds .any e || e.on < i) && ops.toList.zipIdx.all fun (p, j) => pairOk ops i j o p
structure Fine (ops : Array Oper) : Prop where
  sel : ∀ (i : Nat) (o : Oper), ops[i]? = some o → ∀ cs b, o.op ≠ .select cs b
  back : ∀ (i : Nat) (o : Oper), ops[i]? = some o → ∀ e ∈ o.after, Region.binds .any e = true → e.on < i
  one : ∀ (i j : Nat) (d : Tmp), dstOf ops i = some d → dstOf ops j = some d → i = j
  sees : ∀ (i j : Nat) (o p : Oper) (d : Tmp), ops[i]? = some o → ops[j]? = some p → p.dst = some d → d ∈ o.looksAt ops → (j < i ∧ ∃ e ∈ o.after, e.on = j ∧ Region.binds .any e = true) ∨ (i < j ∧ ∃ e ∈ p.after, e.on = i ∧ Region.binds .any e = true)
theorem fine_of (h : canonOk ops = true) : Fine ops := by
  unfold canonOk at h
  rw [List.all_eq_true] at h
  have mem : ∀ (i : Nat) (o : Oper), ops[i]? = some o → (o, i) ∈ ops.toList.zipIdx := fun i o hi => by
    rw [List.mem_zipIdx_iff_getElem?]; simpa using hi
  have pair : ∀ (i j : Nat) (o p : Oper), ops[i]? = some o → ops[j]? = some p → pairOk ops i j o p = true := fun i j o p hi hj => by
    have h1 := h _ (mem i o hi)
    simp only [Bool.and_eq_true] at h1
    have h2 := h1.2
    rw [List.all_eq_true] at h2
    exact h2 _ (mem j p hj)
  refine ⟨?_, ?_, ?_, ?_⟩
  · intro i o hi cs b hb
    have h1 := h _ (mem i o hi)
    simp only [Bool.and_eq_true] at h1
    have h2 := h1.1.1
    rw [hb] at h2
    cases h2
  · intro i o hi e he hb
    have h1 := h _ (mem i o hi)
    simp only [Bool.and_eq_true] at h1
    have h2 := h1.1.2
    rw [Array.all_eq_true_iff_forall_mem] at h2
    have h3 := h2 e he
    simp only [hb, Bool.not_true, Bool.false_or, decide_eq_true_eq] at h3
    exact h3
  · intro i j d hi hj
    unfold dstOf at hi hj
    obtain ⟨o, ho, hod⟩ := Option.bind_eq_some_iff.1 hi
    obtain ⟨p, hp, hpd⟩ := Option.bind_eq_some_iff.1 hj
    have h1 := pair i j o p ho hp
    unfold pairOk at h1
    rw [Bool.and_eq_true] at h1
    have h2 := h1.1
    rw [hod, hpd] at h2
    simpa using h2
  · intro i j o p d hi hj hp hd
    have h1 := pair i j o p hi hj
    unfold pairOk at h1
    rw [Bool.and_eq_true] at h1
    have h2 := h1.2
    rw [hp] at h2
    simp only at h2
    have hc : (o.looksAt ops).contains d = true := by simpa using hd
    rw [hc, Bool.not_true, Bool.false_or] at h2
    by_cases hji : j < i
    · rw [if_pos hji] at h2
      left
      refine ⟨hji, ?_⟩
      rw [← Array.any_toList] at h2
      obtain ⟨e, he, h3⟩ := List.any_eq_true.1 h2
      replace he := Array.mem_toList_iff.1 he
      rw [Bool.and_eq_true] at h3
      exact ⟨e, he, by simpa using h3.1, h3.2⟩
    · rw [if_neg hji, Bool.and_eq_true] at h2
      right
      have hne : j ≠ i := by simpa using h2.1
      refine ⟨by omega, ?_⟩
      have h4 := h2.2
      rw [← Array.any_toList] at h4
      obtain ⟨e, he, h3⟩ := List.any_eq_true.1 h4
      replace he := Array.mem_toList_iff.1 he
      rw [Bool.and_eq_true] at h3
      exact ⟨e, he, by simpa using h3.1, h3.2⟩
/-- One operation, in the order of the text. -/
def StepOk (P : Program) (ops : Array Oper) (Q : Exit → Act → World → Prop) (I : World → Prop) (o : Oper) (a : Act) (v : Value) : Prop :=
  (Region.wanted o (yielded ops a.tmps) = true ∧ ∀ w, I w → o.wp P a w (fun a' w' => a' = a.put o.dst v ∧ I w') (NoPanic Q)) ∨
  (Region.wanted o (yielded ops a.tmps) = false ∧ v = undef)
/-- The operations, in the order of the text. -/
def Walk (P : Program) (ops : Array Oper) (Q : Exit → Act → World → Prop) (I : World → Prop) : List Oper → Act → Prop
  | [], a => ∀ w, I w → Q .normal a w
  | o :: rest, a => ∃ v, StepOk P ops Q I o a v ∧ Walk P ops Q I rest (a.put o.dst v)
theorem put_back {a b : Act} {dst : Option Tmp} {v u : Value} (hs : a.tmps.size = b.tmps.size) (h : b.put dst u = b.put dst v) : a.put dst u = a.put dst v := by
  cases dst with
  | none => rfl
  | some d =>
    by_cases hlt : d < b.tmps.size
    · have h2 : (b.tmps.setIfInBounds d u)[d]? = (b.tmps.setIfInBounds d v)[d]? := by
        have := congrArg Act.tmps h
        show (b.put (some d) u).tmps[d]? = (b.put (some d) v).tmps[d]?
        rw [this]
      rw [Array.getElem?_setIfInBounds_self_of_lt hlt, Array.getElem?_setIfInBounds_self_of_lt hlt] at h2
      injection h2 with h3
      rw [h3]
    · show ({ a with tmps := a.tmps.setIfInBounds d u } : Act) = { a with tmps := a.tmps.setIfInBounds d v }
      have hle : a.tmps.size ≤ d := by rw [hs]; exact Nat.le_of_not_lt hlt
      have e : ∀ x, a.tmps.setIfInBounds d x = a.tmps := fun x => Array.setIfInBounds_eq_of_size_le hle
      rw [e, e]
/-- The same operation at another state that shows it the same. -/
theorem wp_same {o : Oper} {a b : Act} {v : Value} {w : World} (hs : a.tmps.size = b.tmps.size) (he : execOp a.eval o = execOp b.eval o)
    (h : o.wp P b w (fun a' w' => a' = b.put o.dst v ∧ I w') (NoPanic Q)) : o.wp P a w (fun a' w' => a' = a.put o.dst v ∧ I w') Q := by
  unfold Oper.wp at *
  rw [he]
  generalize (execOp b.eval o).run P w = r at *
  cases r with
  | ok n w' =>
    cases n <;> simp only [Oper.upon] at h ⊢
    case value u => exact ⟨put_back hs h.1, h.2⟩
    case skip => exact ⟨put_back hs h.1, h.2⟩
    case defer d =>
      have h1 := congrArg (fun x : Act => x.defers.length) h.1
      cases hd : o.dst <;> simp [hd, Act.put] at h1
    case enter f args =>
      refine Calls.mono h fun e w'' hh => ?_
      cases e with
      | returned u => exact ⟨put_back hs hh.1, hh.2⟩
      | panicked c => exact (hh : False).elim
      | outgrown => exact hh
    case row row args => exact Rows.mono h fun u w'' hh => ⟨put_back hs hh.1, hh.2⟩
  | halt x w' =>
    cases x <;> simp only [Oper.upon] at h ⊢
    case panic u => exact (h : False).elim
def actL (l : List Oper) (T : Nat → Value) (a : Act) : Nat → Act
  | 0 => a
  | i + 1 => match l[i]? with
    | some o => (actL l T a i).put o.dst (T i)
    | none => actL l T a i
theorem act_shift (o : Oper) (rest : List Oper) (T : Nat → Value) (a : Act) : ∀ i, actL (o :: rest) T a (i + 1) = actL rest (fun i => T (i + 1)) (a.put o.dst (T 0)) i
  | 0 => rfl
  | i + 1 => by
    have ih := act_shift o rest T a i
    show (match (o :: rest)[i + 1]? with | some p => (actL (o :: rest) T a (i + 1)).put p.dst (T (i + 1)) | none => actL (o :: rest) T a (i + 1)) = _
    rw [ih, List.getElem?_cons_succ]
    rfl
theorem walk_T : ∀ (l : List Oper) (a : Act), Walk P ops Q I l a → ∃ T : Nat → Value,
    (∀ (i : Nat) (o : Oper), l[i]? = some o → StepOk P ops Q I o (actL l T a i) (T i)) ∧ (∀ w, I w → Q .normal (actL l T a l.length) w) := by
  intro l
  induction l with
  | nil => intro a h; exact ⟨fun _ => undef, fun i o h => by simp at h, h⟩
  | cons o rest ih =>
    intro a h
    obtain ⟨v, hv, hr⟩ := h
    obtain ⟨T, h1, h2⟩ := ih _ hr
    refine ⟨fun i => match i with | 0 => v | i + 1 => T i, ?_, ?_⟩
    · intro i p hp
      cases i with
      | zero =>
        have : o = p := by simpa using hp
        subst this
        exact hv
      | succ i =>
        rw [act_shift]
        exact h1 i p (by simpa using hp)
    · intro w hw
      rw [List.length_cons, act_shift]
      exact h2 w hw
/-- The state in the order of the text is the one that is filled as far. -/
theorem act_fill (T : Nat → Value) (a : Act) : ∀ i, i ≤ ops.size → actL ops.toList T a i = ⟨fillT ops T (fun j => decide (j < i)) i a.tmps, a.defers⟩
  | 0, _ => rfl
  | i + 1, hi => by
    have ih := act_fill T a i (by omega)
    have hc : ∀ k, k ≤ i → fillT ops T (fun j => decide (j < i + 1)) k a.tmps = fillT ops T (fun j => decide (j < i)) k a.tmps := by
      intro k
      induction k with
      | zero => intro _; rfl
      | succ k ihk =>
        intro hk
        unfold fillT
        have e1 : decide (k < i + 1) = true := decide_eq_true (by omega)
        have e2 : decide (k < i) = true := decide_eq_true (by omega)
        simp only [e1, e2, if_true, ihk (by omega)]
    show (match ops.toList[i]? with | some p => (actL ops.toList T a i).put p.dst (T i) | none => actL ops.toList T a i) = _
    rw [ih]
    have hlt : i < ops.size := by omega
    have ho : ops.toList[i]? = some ops[i] := by simp [hlt]
    rw [ho]
    have e1 : decide (i < i + 1) = true := decide_eq_true (by omega)
    rw [fill_succ]
    simp only [e1, if_true, hc i (Nat.le_refl _)]
    unfold dstOf
    have ho2 : ops[i]? = some ops[i] := by simp [hlt]
    rw [ho2]
    simp only [Option.bind_some]
    cases ops[i].dst <;> rfl
theorem fill_more (T : Nat → Value) (L : Nat → Bool) (tm : Array Value) (i : Nat) (hL : ∀ j, i ≤ j → L j = false) : ∀ k, i ≤ k → fillT ops T L k tm = fillT ops T L i tm
  | 0, h => by have : i = 0 := by omega
               subst this; rfl
  | k + 1, h => by
    by_cases e : i = k + 1
    · subst e; rfl
    · unfold fillT
      rw [hL k (by omega)]
      simp only [Bool.false_eq_true, if_false]
      have h2 := fill_more T L tm i hL k (by omega)
      rw [h2]
      cases i <;> rfl
theorem wr_same (hF : Fine ops) {i : Nat} {o : Oper} (ho : ops[i]? = some o) (L : Nat → Bool) (hcl : ∀ j p, L j = true → ops[j]? = some p → ∀ e ∈ p.after, Region.binds .any e = true → L e.on = true)
    (hi : L i = false) (hr : ∀ e ∈ o.after, Region.binds .any e = true → L e.on = true) (t : Tmp) (ht : t ∈ o.looksAt ops) : ∀ k, wr ops L k t = wr ops (fun j => decide (j < i)) k t
  | 0 => rfl
  | k + 1 => by
    have ih := wr_same hF ho L hcl hi hr t ht k
    unfold wr
    by_cases hd : dstOf ops k = some t
    · obtain ⟨p, hp, hpd⟩ := Option.bind_eq_some_iff.1 hd
      rcases hF.sees i k o p t ho hp hpd ht with ⟨hlt, e, he, hon, hb⟩ | ⟨hlt, e, he, hon, hb⟩
      · have h1 : L k = true := by rw [← hon]; exact hr e he hb
        rw [if_pos ⟨h1, hd⟩, if_pos ⟨decide_eq_true hlt, hd⟩]
      · have h1 : ¬ L k = true := fun h => by
          have := hcl k p h hp e he hb
          rw [hon, hi] at this
          cases this
        have h2 : ¬ decide (k < i) = true := by simp; omega
        rw [if_neg (fun h => h1 h.1), if_neg (fun h => h2 h.1)]
        exact ih
    · rw [if_neg (fun h => hd h.2), if_neg (fun h => hd h.2)]
      exact ih
theorem fill_set (hF : Fine ops) (T : Nat → Value) (L : Nat → Bool) (tm : Array Value) {i : Nat} {o : Oper} (ho : ops[i]? = some o) (hi : L i = false) (D : List Deferred) :
    (⟨fillT ops T L ops.size tm, D⟩ : Act).put o.dst (T i) = ⟨fillT ops T (fun j => if j = i then true else L j) ops.size tm, D⟩ := by
  have hlt : i < ops.size := (Array.getElem?_eq_some_iff.1 ho).1
  have hdo : dstOf ops i = o.dst := by unfold dstOf; rw [ho]; rfl
  cases hd : o.dst with
  | none =>
    show (⟨fillT ops T L ops.size tm, D⟩ : Act) = _
    have : ∀ k, fillT ops T L k tm = fillT ops T (fun j => if j = i then true else L j) k tm := by
      intro k
      induction k with
      | zero => rfl
      | succ k ih =>
        unfold fillT
        by_cases e : k = i
        · subst e
          rw [hdo, hd]
          simp only [ih, if_true, ite_self]
        · simp only [e, if_false, ih]
    rw [this]
  | some d =>
    show (⟨(fillT ops T L ops.size tm).setIfInBounds d (T i), D⟩ : Act) = _
    congr 1
    refine ext_get fun t => ?_
    have hs := fill_size (ops := ops) T L tm ops.size
    rw [fill_get]
    have hwr : ∀ k, t ≠ d → wr ops (fun j => if j = i then true else L j) k t = wr ops L k t := by
      intro k hne
      induction k with
      | zero => rfl
      | succ k ih =>
        unfold wr
        by_cases e : k = i
        · subst e
          have h2 : ¬ dstOf ops k = some t := by rw [hdo, hd]; intro h; injection h with h; exact hne h.symm
          rw [if_neg (fun h => h2 h.2), if_neg (fun h => h2 h.2)]
          exact ih
        · simp only [e, if_false]
          rw [ih]
    by_cases hdt : d = t
    · subst hdt
      have hw : ∀ k, i < k → wr ops (fun j => if j = i then true else L j) k d = some i := by
        intro k
        induction k with
        | zero => intro h; omega
        | succ k ih =>
          intro h
          unfold wr
          by_cases e : k = i
          · subst e
            simp [hdo, hd]
          · have h2 : ¬ dstOf ops k = some d := fun h => e (hF.one k i d h (by rw [hdo, hd]))
            rw [if_neg (fun h => h2 h.2)]
            exact ih (by omega)
      rw [hw _ hlt]
      by_cases hl : d < tm.size
      · rw [if_pos hl, Array.getElem?_setIfInBounds_self_of_lt (by rw [hs]; exact hl)]
        rfl
      · rw [if_neg hl, Array.getElem?_eq_none (by rw [Array.size_setIfInBounds, hs]; exact Nat.le_of_not_lt hl)]
    · rw [Array.getElem?_setIfInBounds_ne hdt, fill_get, hwr _ (Ne.symm hdt)]
theorem canon_any (hF : Fine ops) (T : Nat → Value) (a₀ : Act) (hs : ∀ (i : Nat) (o : Oper), ops.toList[i]? = some o → StepOk P ops Q I o (actL ops.toList T a₀ i) (T i))
    (he : ∀ w, I w → Q .normal (actL ops.toList T a₀ ops.toList.length) w) :
    ∀ (fuel : Nat) (listed : Array Bool) (w : World), listed.size = ops.size → (∀ j p, listed.getD j false = true → ops[j]? = some p → ∀ e ∈ p.after, Region.binds .any e = true → listed.getD e.on false = true) →
      ((List.range ops.size).filter fun j => !listed.getD j false).length ≤ fuel → I w → wpAny P .any ops Q fuel listed ⟨fillT ops T (fun j => listed.getD j false) ops.size a₀.tmps, a₀.defers⟩ w := by
  have full : ∀ (listed : Array Bool), Region.ready .any ops listed = [] → (∀ j, j < ops.size → listed.getD j false = true) ∨ ∃ j, j < ops.size ∧ listed.size ≤ j := by
    intro listed hr
    by_cases hsz : ∃ j, j < ops.size ∧ listed.size ≤ j
    · exact .inr hsz
    · left
      have key : ∀ n j, j ≤ n → j < ops.size → listed.getD j false = true := by
        intro n
        induction n with
        | zero =>
          intro j hj hlt
          obtain rfl : j = 0 := by omega
          have ho : ops[0]? = some ops[0] := by simp [hlt]
          cases hc : listed.getD 0 false with
          | true => rfl
          | false =>
            exfalso
            have hin : 0 < listed.size := by
              rcases Nat.lt_or_ge 0 listed.size with h | h
              · exact h
              · exact absurd ⟨0, hlt, h⟩ hsz
            have hmem : 0 ∈ Region.ready .any ops listed := mem_ready.2 ⟨by simpa [hin] using hc, ops[0], ho, fun e he hb => by
              have := hF.back 0 _ ho e he hb; omega⟩
            rw [hr] at hmem; cases hmem
        | succ n ih =>
          intro j hj hlt
          by_cases h : j ≤ n
          · exact ih j h hlt
          · have ho : ops[j]? = some ops[j] := by simp [hlt]
            cases hc : listed.getD j false with
            | true => rfl
            | false =>
              exfalso
              have hin : j < listed.size := by
                rcases Nat.lt_or_ge j listed.size with h | h
                · exact h
                · exact absurd ⟨j, hlt, h⟩ hsz
              have hmem : j ∈ Region.ready .any ops listed := mem_ready.2 ⟨by simpa [hin] using hc, ops[j], ho, fun e he hb => by
                have := hF.back j _ ho e he hb
                exact ih e.on (by omega) (by omega)⟩
              rw [hr] at hmem; cases hmem
      exact fun j hj => key j j (Nat.le_refl _) hj
  have done : ∀ (listed : Array Bool) (w : World), listed.size = ops.size → (∀ j, j < ops.size → listed.getD j false = true) → I w → Q .normal ⟨fillT ops T (fun j => listed.getD j false) ops.size a₀.tmps, a₀.defers⟩ w := by
    intro listed w hsz hall hw
    have h1 := he w hw
    rw [Array.length_toList, act_fill T a₀ ops.size (Nat.le_refl _)] at h1
    have h2 : ∀ k, k ≤ ops.size → fillT ops T (fun j => listed.getD j false) k a₀.tmps = fillT ops T (fun j => decide (j < ops.size)) k a₀.tmps := by
      intro k
      induction k with
      | zero => intro _; rfl
      | succ k ih =>
        intro hk
        unfold fillT
        have e1 : decide (k < ops.size) = true := decide_eq_true (by omega)
        simp only [hall k (by omega), e1, ih (by omega)]
    rw [h2 _ (Nat.le_refl _)]
    exact h1
  intro fuel
  induction fuel with
  | zero =>
    intro listed w hsz hcl hcnt hw
    have hall : ∀ j, j < ops.size → listed.getD j false = true := by
      intro j hj
      have h0 : (List.range ops.size).filter (fun j => !listed.getD j false) = [] := List.eq_nil_of_length_eq_zero (by omega)
      have := List.filter_eq_nil_iff.1 h0 j (List.mem_range.2 hj)
      simpa using this
    refine ⟨?_, done listed w hsz hall hw⟩
    cases hr : Region.ready .any ops listed with
    | nil => rfl
    | cons j l =>
      exfalso
      have hj : j ∈ Region.ready .any ops listed := by rw [hr]; exact List.mem_cons_self
      obtain ⟨h0, o, ho, _⟩ := mem_ready.1 hj
      have hlt : j < ops.size := (Array.getElem?_eq_some_iff.1 ho).1
      have h1 := hall j hlt
      have hin : j < listed.size := by omega
      simp [hin] at h0 h1
      rw [h0] at h1
      cases h1
  | succ fuel ih =>
    intro listed w hsz hcl hcnt hw
    refine ⟨fun hr => ?_, fun i hi => ?_⟩
    · rcases full listed hr with hall | ⟨j, hj, hj2⟩
      · exact done listed w hsz hall hw
      · omega
    · obtain ⟨h0, o, ho, hrd⟩ := mem_ready.1 hi
      have hlt : i < ops.size := (Array.getElem?_eq_some_iff.1 ho).1
      have hin : i < listed.size := by omega
      have hi0 : listed.getD i false = false := by
        have := h0
        simp [hin] at this ⊢
        exact this
      have hstep := hs i o (by simpa using ho)
      rw [act_fill T a₀ i (by omega)] at hstep
      have hsame : ∀ t, t ∈ o.looksAt ops → (fillT ops T (fun j => listed.getD j false) ops.size a₀.tmps)[t]? = (fillT ops T (fun j => decide (j < i)) i a₀.tmps)[t]? := by
        intro t ht
        rw [← fill_more T (fun j => decide (j < i)) a₀.tmps i (fun j hj => decide_eq_false (by omega)) ops.size (by omega)]
        rw [fill_get, fill_get, wr_same hF ho _ hcl hi0 hrd t ht]
      have hexec : execOp (⟨fillT ops T (fun j => listed.getD j false) ops.size a₀.tmps, a₀.defers⟩ : Act).eval o = execOp (⟨fillT ops T (fun j => decide (j < i)) i a₀.tmps, a₀.defers⟩ : Act).eval o := by
        refine execOp_congr o (hF.sel i o ho) fun x hx => ?_
        cases x with
        | tmp t =>
          have h2 := hsame t (List.mem_append_left _ (List.mem_filterMap.2 ⟨.tmp t, by simpa using hx, rfl⟩))
          show (fillT ops T _ ops.size a₀.tmps).getD t undef = (fillT ops T _ i a₀.tmps).getD t undef
          rw [Array.getD_eq_getD_getElem?, Array.getD_eq_getD_getElem?, h2]
        | const v => rfl
        | global g => rfl
        | func f => rfl
      have hwant : Region.wanted o (yielded ops (fillT ops T (fun j => listed.getD j false) ops.size a₀.tmps)) = Region.wanted o (yielded ops (fillT ops T (fun j => decide (j < i)) i a₀.tmps)) := by
        unfold Region.wanted
        cases hg : o.guard with
        | none => rfl
        | some gw =>
          obtain ⟨g, want⟩ := gw
          simp only
          unfold yielded
          cases hd : (ops[g]?).bind (·.dst) with
          | none => rfl
          | some d =>
            have hlook : d ∈ o.looksAt ops := List.mem_append_right _ (by rw [hg]; simp [hd])
            simp only [Option.bind_some]
            rw [hsame d hlook]
      have hget : ∀ j, (listed.setIfInBounds i true).getD j false = if j = i then true else listed.getD j false := by
        intro j
        by_cases e : j = i
        · subst e; simp [hin]
        · rw [getD_set_ne false (Ne.symm e), if_neg e]
      have next : ∀ w', I w' → wpAny P .any ops Q fuel (listed.setIfInBounds i true) ((⟨fillT ops T (fun j => listed.getD j false) ops.size a₀.tmps, a₀.defers⟩ : Act).put o.dst (T i)) w' := by
        intro w' hw'
        rw [fill_set hF T _ _ ho hi0]
        have h3 := ih (listed.setIfInBounds i true) w' (by rw [Array.size_setIfInBounds]; exact hsz) ?_ ?_ hw'
        · rw [show (fun j => (listed.setIfInBounds i true).getD j false) = (fun j => if j = i then true else listed.getD j false) from funext hget] at h3
          exact h3
        · intro j p hj hp e he hb
          rw [hget] at hj
          by_cases ej : j = i
          · subst ej
            rw [ho] at hp
            injection hp with hp
            subst hp
            exact getD_set_true (hrd e he hb)
          · rw [if_neg ej] at hj
            exact getD_set_true (hcl j p hj hp e he hb)
        · have hlen : ((List.range ops.size).filter fun j => !(listed.setIfInBounds i true).getD j false).length < ((List.range ops.size).filter fun j => !listed.getD j false).length := by
            have hsub : ((List.range ops.size).filter fun j => !(listed.setIfInBounds i true).getD j false) = ((List.range ops.size).filter fun j => !listed.getD j false).filter (fun j => !decide (j = i)) := by
              rw [List.filter_filter]
              congr 1
              funext j
              rw [hget]
              by_cases e : j = i
              · simp [e]
              · simp [e]
            rw [hsub]
            refine List.length_filter_lt_length_iff_exists.2 ⟨i, List.mem_filter.2 ⟨List.mem_range.2 hlt, by simp [hi0]⟩, by simp⟩
          omega
      unfold wpOp
      rw [ho]
      simp only
      rw [hwant]
      rcases hstep with ⟨hw1, hwp⟩ | ⟨hw1, hv⟩
      · simp only at hw1
        rw [if_pos hw1]
        left
        have h4 := wp_same (a := ⟨fillT ops T (fun j => listed.getD j false) ops.size a₀.tmps, a₀.defers⟩) (by show (fillT ops T _ _ _).size = (fillT ops T _ _ _).size; rw [fill_size, fill_size]) hexec (hwp w hw)
        exact Oper.wp_mono (fun a' w' ⟨ha, hI⟩ => by rw [ha]; exact next w' hI) h4
      · simp only at hw1
        rw [if_neg (by rw [hw1]; exact Bool.false_ne_true), ← hv]
        exact next w hw
theorem region_canon {id : Nat} {a : Act} {w : World} (hm : P.follows .mixedOrders = true) (hok : canonOk ops = true) (hI : I { w with drawn := w.drawn + 1 })
    (h : Walk P ops Q I ops.toList a) : (Code.region id ops true).wp P Q a w := by
  obtain ⟨T, h1, h2⟩ := walk_T _ _ h
  refine wp_region_any hm ?_
  have h3 := canon_any (fine_of hok) T a h1 h2 ops.size (Array.replicate ops.size false) { w with drawn := w.drawn + 1 } (by simp) ?_ ?_ hI
  · have e : fillT ops T (fun j => (Array.replicate ops.size false).getD j false) ops.size a.tmps = a.tmps := by
      have : ∀ k, fillT ops T (fun j => (Array.replicate ops.size false).getD j false) k a.tmps = a.tmps := by
        intro k
        induction k with
        | zero => rfl
        | succ k ih =>
          unfold fillT
          have : (Array.replicate ops.size false).getD k false = false := by
            rcases Nat.lt_or_ge k ops.size with h | h
            · simp [h]
            · simp [h]
          simp only [this, Bool.false_eq_true, if_false]
          exact ih
      exact this _
    rw [e] at h3
    exact h3
  · intro j p hj
    exfalso
    rcases Nat.lt_or_ge j ops.size with h | h
    · simp [h] at hj
    · simp [h] at hj
  · exact Nat.le_trans (List.length_filter_le _ _) (by simp)
/-- The moves. -/
theorem step {o : Oper} {rest : List Oper} {a : Act} (v : Value) (hg : Region.wanted o (yielded ops a.tmps) = true) (h : ∀ w, I w → o.wp P a w (fun a' w' => a' = a.put o.dst v ∧ I w') (NoPanic Q))
    (hr : Walk P ops Q I rest (a.put o.dst v)) : Walk P ops Q I (o :: rest) a := ⟨v, .inl ⟨hg, h⟩, hr⟩
theorem pure {o : Oper} {rest : List Oper} {a : Act} (v : Value) (hg : Region.wanted o (yielded ops a.tmps) = true) (h : ∀ w, (execOp a.eval o).run P w = .ok (.value v) w)
    (hr : Walk P ops Q I rest (a.put o.dst v)) : Walk P ops Q I (o :: rest) a := ⟨v, .inl ⟨hg, fun w hw => by unfold Oper.wp; rw [h w]; exact ⟨rfl, hw⟩⟩, hr⟩
theorem reads {o : Oper} {rest : List Oper} {a : Act} (v : Value) (hg : Region.wanted o (yielded ops a.tmps) = true) (h : ∀ w, I w → (execOp a.eval o).run P w = .ok (.value v) w)
    (hr : Walk P ops Q I rest (a.put o.dst v)) : Walk P ops Q I (o :: rest) a := ⟨v, .inl ⟨hg, fun w hw => by unfold Oper.wp; rw [h w hw]; exact ⟨rfl, hw⟩⟩, hr⟩
theorem skip {o : Oper} {rest : List Oper} {a : Act} (hg : Region.wanted o (yielded ops a.tmps) = false) (hr : Walk P ops Q I rest (a.put o.dst undef)) : Walk P ops Q I (o :: rest) a := ⟨undef, .inr ⟨hg, rfl⟩, hr⟩
theorem call {o : Oper} {rest : List Oper} {a : Act} (v : Value) (f : FuncId) (args : Array Value) (hg : Region.wanted o (yielded ops a.tmps) = true) (h : ∀ w, (execOp a.eval o).run P w = .ok (.enter f args) w)
    (hc : ∀ w, I w → Calls P f args w fun e w' => e = .returned v ∧ I w') (hr : Walk P ops Q I rest (a.put o.dst v)) : Walk P ops Q I (o :: rest) a :=
  ⟨v, .inl ⟨hg, fun w hw => by
    unfold Oper.wp; rw [h w]
    refine Calls.mono (hc w hw) fun e w' ⟨he, hi⟩ => ?_
    subst he
    exact ⟨rfl, hi⟩⟩, hr⟩
/-- The same with the operation's meaning written out (closed by reckoning). -/
theorem pureS {o : Oper} {rest : List Oper} {a : Act} (s : Sem Next) (v : Value) (hg : Region.wanted o (yielded ops a.tmps) = true) (hs : execOp a.eval o = s) (h : ∀ w, s.run P w = .ok (.value v) w)
    (hr : Walk P ops Q I rest (a.put o.dst v)) : Walk P ops Q I (o :: rest) a := pure v hg (fun w => by rw [hs]; exact h w) hr
theorem readsS {o : Oper} {rest : List Oper} {a : Act} (s : Sem Next) (v : Value) (hg : Region.wanted o (yielded ops a.tmps) = true) (hs : execOp a.eval o = s) (h : ∀ w, I w → s.run P w = .ok (.value v) w)
    (hr : Walk P ops Q I rest (a.put o.dst v)) : Walk P ops Q I (o :: rest) a := reads v hg (fun w hw => by rw [hs]; exact h w hw) hr
/-- What reading a variable means. -/
abbrev ldS (t : TypeId) (v : Value) : Sem Next := do Pure.pure (.value (← Instr.loadAt t v))
/-- What an operation on two values means. -/
abbrev opS (op : BinOp) (t : TypeId) (a b : Operand) (x y : Value) : Sem Next := do Pure.pure (.value (← (do eqGuard op t a b x y; binOp op t x y)))
theorem fin {a : Act} (h : ∀ w, I w → Q .normal a w) : Walk P ops Q I [] a := h
end
end Go.Proofs.Ytfhigpmpngfkbaa.Canon
