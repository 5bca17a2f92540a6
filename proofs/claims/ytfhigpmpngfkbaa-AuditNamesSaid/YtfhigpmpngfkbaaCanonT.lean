/- A region that draws its order and ends in operations that come one behind the other (stores, makings): the first ones by their own order, the last ones in the order of the text. No program in sight. -/
import Derived.Test.YtfhigpmpngfkbaaCanon
namespace Go.Proofs.Ytfhigpmpngfkbaa.CanonT
open Go Go.Proofs.Ytfhigpmpngfkbaa.Canon
section
variable {P : Program} {ops : Array Oper} {Q : Exit → Act → World → Prop} {I : World → Prop}
def reach (ops : Array Oper) : Nat → Nat → Nat → Bool
  | 0, _, _ => false
  | f + 1, i, j => match ops[i]? with
    | none => false
    | some o => o.after.any fun e => Region.binds .any e && (e.on == j || reach ops f e.on j)
theorem reach_listed (L : Nat → Bool) (hcl : ∀ j p, L j = true → ops[j]? = some p → ∀ e ∈ p.after, Region.binds .any e = true → L e.on = true) :
    ∀ f i j o, ops[i]? = some o → (∀ e ∈ o.after, Region.binds .any e = true → L e.on = true) → reach ops f i j = true → L j = true
  | 0, _, _, _, _, _, h => by cases h
  | f + 1, i, j, o, ho, hr, h => by
    unfold reach at h
    rw [ho] at h
    simp only at h
    rw [← Array.any_toList] at h
    obtain ⟨e, he, h3⟩ := List.any_eq_true.1 h
    replace he := Array.mem_toList_iff.1 he
    rw [Bool.and_eq_true, Bool.or_eq_true] at h3
    rcases h3.2 with h4 | h4
    · have : e.on = j := by simpa using h4
      rw [← this]; exact hr e he h3.1
    · have hL := hr e he h3.1
      cases hp : ops[e.on]? with
      | none =>
        exfalso
        cases f with
        | zero => cases h4
        | succ f => unfold reach at h4; rw [hp] at h4; cases h4
      | some p => exact reach_listed L hcl f e.on j p hp (hcl e.on p hL hp) h4
def tailOk (ops : Array Oper) (n : Nat) : Bool := decide (n ≤ ops.size) && (List.range (ops.size - n)).all fun d => (List.range (n + d)).all fun j => reach ops ops.size (n + d) j
def headOk (ops : Array Oper) (n : Nat) : Bool :=
  (ops.toList.zipIdx.all fun (o, i) => !isSelect o.op && o.after.all (fun e => !Region.binds .any e || e.on < i)) && (ops.toList.take n).zipIdx.all fun (o, i) => (ops.toList.take n).zipIdx.all fun (p, j) => pairOk ops i j o p
/-- The operation looks at nothing that a later one of the first ones writes, and so on. -/
structure FineT (ops : Array Oper) (n : Nat) : Prop where
  sel : ∀ (i : Nat) (o : Oper), ops[i]? = some o → ∀ cs b, o.op ≠ .select cs b
  back : ∀ (i : Nat) (o : Oper), ops[i]? = some o → ∀ e ∈ o.after, Region.binds .any e = true → e.on < i
  one : ∀ (i j : Nat) (d : Tmp), i < n → j < n → dstOf ops i = some d → dstOf ops j = some d → i = j
  sees : ∀ (i j : Nat) (o p : Oper) (d : Tmp), i < n → j < n → ops[i]? = some o → ops[j]? = some p → p.dst = some d → d ∈ o.looksAt ops → (j < i ∧ ∃ e ∈ o.after, e.on = j ∧ Region.binds .any e = true) ∨ (i < j ∧ ∃ e ∈ p.after, e.on = i ∧ Region.binds .any e = true)
  le : n ≤ ops.size
  tail : ∀ i j, n ≤ i → i < ops.size → j < i → reach ops ops.size i j = true
theorem fineT_of {n : Nat} (h : headOk ops n = true) (ht : tailOk ops n = true) : FineT ops n := by
  unfold headOk at h
  rw [Bool.and_eq_true, List.all_eq_true] at h
  obtain ⟨h, hp⟩ := h
  unfold tailOk at ht
  rw [Bool.and_eq_true] at ht
  obtain ⟨hle, ht⟩ := ht
  have hle := of_decide_eq_true hle
  have mem : ∀ (i : Nat) (o : Oper), ops[i]? = some o → (o, i) ∈ ops.toList.zipIdx := fun i o hi => by
    rw [List.mem_zipIdx_iff_getElem?]; simpa using hi
  have memT : ∀ (i : Nat) (o : Oper), i < n → ops[i]? = some o → (o, i) ∈ (ops.toList.take n).zipIdx := fun i o hn hi => by
    rw [List.mem_zipIdx_iff_getElem?, List.getElem?_take]
    simp only [hn, if_true]
    simpa using hi
  have pair : ∀ (i j : Nat) (o p : Oper), i < n → j < n → ops[i]? = some o → ops[j]? = some p → pairOk ops i j o p = true := fun i j o p hin hjn hi hj => by
    rw [List.all_eq_true] at hp
    have h1 := hp _ (memT i o hin hi)
    simp only at h1
    rw [List.all_eq_true] at h1
    exact h1 _ (memT j p hjn hj)
  refine ⟨?_, ?_, ?_, ?_, hle, ?_⟩
  · intro i o hi cs b hb
    have h1 := h _ (mem i o hi)
    simp only [Bool.and_eq_true] at h1
    have h2 := h1.1
    rw [hb] at h2
    cases h2
  · intro i o hi e he hb
    have h1 := h _ (mem i o hi)
    simp only [Bool.and_eq_true] at h1
    have h2 := h1.2
    rw [Array.all_eq_true_iff_forall_mem] at h2
    have h3 := h2 e he
    simp only [hb, Bool.not_true, Bool.false_or, decide_eq_true_eq] at h3
    exact h3
  · intro i j d hin hjn hi hj
    unfold dstOf at hi hj
    obtain ⟨o, ho, hod⟩ := Option.bind_eq_some_iff.1 hi
    obtain ⟨p, hp', hpd⟩ := Option.bind_eq_some_iff.1 hj
    have h1 := pair i j o p hin hjn ho hp'
    unfold pairOk at h1
    rw [Bool.and_eq_true] at h1
    have h2 := h1.1
    rw [hod, hpd] at h2
    simpa using h2
  · intro i j o p d hin hjn hi hj hp' hd
    have h1 := pair i j o p hin hjn hi hj
    unfold pairOk at h1
    rw [Bool.and_eq_true] at h1
    have h2 := h1.2
    rw [hp'] at h2
    simp only at h2
    have hc : (o.looksAt ops).contains d = true := by simpa using hd
    rw [hc, Bool.not_true, Bool.false_or] at h2
    by_cases hji : j < i
    · rw [if_pos hji] at h2
      left
      refine ⟨hji, ?_⟩
      rw [← Array.any_toList] at h2
      obtain ⟨e, he, h3⟩ := List.any_eq_true.1 h2
      replace he := Array.mem_toList_iff.1 he
      rw [Bool.and_eq_true] at h3
      exact ⟨e, he, by simpa using h3.1, h3.2⟩
    · rw [if_neg hji, Bool.and_eq_true] at h2
      right
      have hne : j ≠ i := by simpa using h2.1
      refine ⟨by omega, ?_⟩
      have h4 := h2.2
      rw [← Array.any_toList] at h4
      obtain ⟨e, he, h3⟩ := List.any_eq_true.1 h4
      replace he := Array.mem_toList_iff.1 he
      rw [Bool.and_eq_true] at h3
      exact ⟨e, he, by simpa using h3.1, h3.2⟩
  · intro i j hi hlt hj
    rw [List.all_eq_true] at ht
    have h1 := ht (i - n) (List.mem_range.2 (by omega))
    rw [List.all_eq_true] at h1
    have h2 := h1 j (List.mem_range.2 (by omega))
    rw [show n + (i - n) = i by omega] at h2
    exact h2
theorem wr_sameT {n : Nat} (hF : FineT ops n) {i : Nat} (hin : i < n) {o : Oper} (ho : ops[i]? = some o) (L : Nat → Bool) (hcl : ∀ j p, L j = true → ops[j]? = some p → ∀ e ∈ p.after, Region.binds .any e = true → L e.on = true)
    (hi : L i = false) (hr : ∀ e ∈ o.after, Region.binds .any e = true → L e.on = true) (t : Tmp) (ht : t ∈ o.looksAt ops) : ∀ k, k ≤ n → wr ops L k t = wr ops (fun j => decide (j < i)) k t
  | 0, _ => rfl
  | k + 1, hk => by
    have ih := wr_sameT hF hin ho L hcl hi hr t ht k (by omega)
    unfold wr
    by_cases hd : dstOf ops k = some t
    · obtain ⟨p, hp, hpd⟩ := Option.bind_eq_some_iff.1 hd
      rcases hF.sees i k o p t hin (by omega) ho hp hpd ht with ⟨hlt, e, he, hon, hb⟩ | ⟨hlt, e, he, hon, hb⟩
      · have h1 : L k = true := by rw [← hon]; exact hr e he hb
        rw [if_pos ⟨h1, hd⟩, if_pos ⟨decide_eq_true hlt, hd⟩]
      · have h1 : ¬ L k = true := fun h => by
          have := hcl k p h hp e he hb
          rw [hon, hi] at this
          cases this
        have h2 : ¬ decide (k < i) = true := by simp; omega
        rw [if_neg (fun h => h1 h.1), if_neg (fun h => h2 h.1)]
        exact ih
    · rw [if_neg (fun h => hd h.2), if_neg (fun h => hd h.2)]
      exact ih
theorem fill_setT {n : Nat} (hF : FineT ops n) (T : Nat → Value) (L : Nat → Bool) (tm : Array Value) {i : Nat} (hin : i < n) {o : Oper} (ho : ops[i]? = some o) (hi : L i = false) (D : List Deferred) :
    (⟨fillT ops T L n tm, D⟩ : Act).put o.dst (T i) = ⟨fillT ops T (fun j => if j = i then true else L j) n tm, D⟩ := by
  have hdo : dstOf ops i = o.dst := by unfold dstOf; rw [ho]; rfl
  cases hd : o.dst with
  | none =>
    show (⟨fillT ops T L n tm, D⟩ : Act) = _
    have : ∀ k, fillT ops T L k tm = fillT ops T (fun j => if j = i then true else L j) k tm := by
      intro k
      induction k with
      | zero => rfl
      | succ k ih =>
        unfold fillT
        by_cases e : k = i
        · subst e
          rw [hdo, hd]
          simp only [ih, if_true, ite_self]
        · simp only [e, if_false, ih]
    rw [this]
  | some d =>
    show (⟨(fillT ops T L n tm).setIfInBounds d (T i), D⟩ : Act) = _
    congr 1
    refine ext_get fun t => ?_
    have hs := fill_size (ops := ops) T L tm n
    rw [fill_get]
    have hwr : ∀ k, t ≠ d → wr ops (fun j => if j = i then true else L j) k t = wr ops L k t := by
      intro k hne
      induction k with
      | zero => rfl
      | succ k ih =>
        unfold wr
        by_cases e : k = i
        · subst e
          have h2 : ¬ dstOf ops k = some t := by rw [hdo, hd]; intro h; injection h with h; exact hne h.symm
          rw [if_neg (fun h => h2 h.2), if_neg (fun h => h2 h.2)]
          exact ih
        · simp only [e, if_false]
          rw [ih]
    by_cases hdt : d = t
    · subst hdt
      have hw : ∀ k, k ≤ n → i < k → wr ops (fun j => if j = i then true else L j) k d = some i := by
        intro k
        induction k with
        | zero => intro _ h; omega
        | succ k ih =>
          intro hkn h
          unfold wr
          by_cases e : k = i
          · subst e
            simp [hdo, hd]
          · have h2 : ¬ dstOf ops k = some d := fun h => e (hF.one k i d (by omega) hin h (by rw [hdo, hd]))
            rw [if_neg (fun h => h2 h.2)]
            exact ih (by omega) (by omega)
      rw [hw _ (Nat.le_refl _) hin]
      by_cases hl : d < tm.size
      · rw [if_pos hl, Array.getElem?_setIfInBounds_self_of_lt (by rw [hs]; exact hl)]
        rfl
      · rw [if_neg hl, Array.getElem?_eq_none (by rw [Array.size_setIfInBounds, hs]; exact Nat.le_of_not_lt hl)]
    · rw [Array.getElem?_setIfInBounds_ne hdt, fill_get, hwr _ (Ne.symm hdt)]
theorem tail_any {n : Nat} (hF : FineT ops n) : ∀ (fuel m : Nat) (listed : Array Bool) (a : Act) (w : World), listed.size = ops.size → (∀ j, j < ops.size → listed.getD j false = decide (j < m)) → n ≤ m → m ≤ ops.size → ops.size - m ≤ fuel →
    wpList P ops Q (ops.toList.drop m) a w → wpAny P .any ops Q fuel listed a w := by
  have rd : ∀ (m : Nat) (listed : Array Bool), listed.size = ops.size → (∀ j, j < ops.size → listed.getD j false = decide (j < m)) → n ≤ m → ∀ i, i ∈ Region.ready .any ops listed → i = m ∧ m < ops.size := by
    intro m listed hsz hL hnm i hi
    obtain ⟨h0, o, ho, hrd⟩ := mem_ready.1 hi
    have hlt : i < ops.size := (Array.getElem?_eq_some_iff.1 ho).1
    have hin : i < listed.size := by omega
    have hi0 : listed.getD i false = false := by
      have := h0
      simp [hin] at this ⊢
      exact this
    have hge : m ≤ i := by
      rw [hL i hlt] at hi0
      have := of_decide_eq_false hi0
      omega
    by_cases he : i = m
    · exact ⟨he, by omega⟩
    · exfalso
      have h1 := hF.tail i m (by omega) hlt (by omega)
      have h2 := reach_listed (fun j => listed.getD j false) (fun j p hj hp e he hb => by
        have hjl : j < ops.size := (Array.getElem?_eq_some_iff.1 hp).1
        have hjm := of_decide_eq_true ((hL j hjl).symm.trans hj)
        have := hF.back j p hp e he hb
        show listed.getD e.on false = true
        rw [hL e.on (by omega)]; exact decide_eq_true (by omega)) _ i m o ho hrd h1
      have h3 : listed.getD m false = true := h2
      rw [hL m (by omega)] at h3
      have := of_decide_eq_true h3
      omega
  intro fuel
  induction fuel with
  | zero =>
    intro m listed a w hsz hL hnm hm hf h
    obtain rfl : m = ops.size := by omega
    refine ⟨?_, ?_⟩
    · cases hr : Region.ready .any ops listed with
      | nil => rfl
      | cons j l =>
        exfalso
        have := rd ops.size listed hsz hL hnm j (by rw [hr]; exact List.mem_cons_self)
        omega
    · rw [List.drop_of_length_le (by simp)] at h
      exact h
  | succ fuel ih =>
    intro m listed a w hsz hL hnm hm hf h
    refine ⟨fun hr => ?_, fun i hi => ?_⟩
    · by_cases hlt : m < ops.size
      · exfalso
        have ho : ops[m]? = some ops[m] := by simp [hlt]
        have hin : m < listed.size := by omega
        have hmem : m ∈ Region.ready .any ops listed := mem_ready.2 ⟨by
          have := hL m hlt
          rw [decide_eq_false (by omega)] at this
          simp [hin] at this ⊢
          exact this, ops[m], ho, fun e he hb => by
          have := hF.back m _ ho e he hb
          rw [hL e.on (by omega)]; exact decide_eq_true (by omega)⟩
        rw [hr] at hmem; cases hmem
      · obtain rfl : m = ops.size := by omega
        rw [List.drop_of_length_le (by simp)] at h
        exact h
    · obtain ⟨rfl, hlt⟩ := rd m listed hsz hL hnm i hi
      have ho : ops[i]? = some ops[i] := by simp [hlt]
      have hd : ops.toList.drop i = ops[i] :: ops.toList.drop (i + 1) := by
        rw [List.drop_eq_getElem_cons (by simpa using hlt)]; simp
      rw [hd] at h
      unfold wpOp
      rw [ho]
      simp only
      have hin : i < listed.size := by omega
      have hget : ∀ j, j < ops.size → (listed.setIfInBounds i true).getD j false = decide (j < i + 1) := by
        intro j hj
        by_cases e : j = i
        · subst e; simp [hin]
        · rw [getD_set_ne false (Ne.symm e), hL j hj, decide_eq_decide]; omega
      have next : ∀ a' w', wpList P ops Q (ops.toList.drop (i + 1)) a' w' → wpAny P .any ops Q fuel (listed.setIfInBounds i true) a' w' := fun a' w' h' =>
        ih (i + 1) _ a' w' (by rw [Array.size_setIfInBounds]; exact hsz) hget (by omega) (by omega) (by omega) h'
      unfold wpList at h
      split
      · rename_i hw
        rw [if_pos hw] at h
        exact h.imp (Oper.wp_mono next) id
      · rename_i hw
        rw [if_neg hw] at h
        exact next _ _ h
theorem canonT_any {n : Nat} (hF : FineT ops n) (T : Nat → Value) (a₀ : Act) (hs : ∀ (i : Nat) (o : Oper), i < n → ops.toList[i]? = some o → StepOk P ops Q I o (actL ops.toList T a₀ i) (T i))
    (he : ∀ w, I w → wpList P ops Q (ops.toList.drop n) (actL ops.toList T a₀ n) w) :
    ∀ (fuel : Nat) (listed : Array Bool) (w : World), listed.size = ops.size → (∀ j, n ≤ j → listed.getD j false = false) → (∀ j p, listed.getD j false = true → ops[j]? = some p → ∀ e ∈ p.after, Region.binds .any e = true → listed.getD e.on false = true) →
      ((List.range ops.size).filter fun j => !listed.getD j false).length ≤ fuel → I w → wpAny P .any ops Q fuel listed ⟨fillT ops T (fun j => listed.getD j false) n a₀.tmps, a₀.defers⟩ w := by
  have hle := hF.le
  have done : ∀ (fuel : Nat) (listed : Array Bool) (w : World), listed.size = ops.size → (∀ j, j < n → listed.getD j false = true) → (∀ j, n ≤ j → listed.getD j false = false) → ((List.range ops.size).filter fun j => !listed.getD j false).length ≤ fuel → I w → wpAny P .any ops Q fuel listed ⟨fillT ops T (fun j => listed.getD j false) n a₀.tmps, a₀.defers⟩ w := by
    intro fuel listed w hsz hall hno hcnt hw
    have h1 := he w hw
    rw [act_fill T a₀ n hle] at h1
    have h2 : ∀ k, k ≤ n → fillT ops T (fun j => listed.getD j false) k a₀.tmps = fillT ops T (fun j => decide (j < n)) k a₀.tmps := by
      intro k
      induction k with
      | zero => intro _; rfl
      | succ k ih =>
        intro hk
        unfold fillT
        have e1 : decide (k < n) = true := decide_eq_true (by omega)
        simp only [hall k (by omega), e1, ih (by omega)]
    rw [h2 _ (Nat.le_refl _)]
    refine tail_any hF fuel n listed _ w hsz (fun j hj => ?_) (Nat.le_refl _) hle ?_ h1
    · by_cases h : j < n
      · rw [hall j h, decide_eq_true h]
      · rw [hno j (by omega), decide_eq_false h]
    · refine Nat.le_trans ?_ hcnt
      have hsub : (List.range' n (ops.size - n)).length ≤ ((List.range ops.size).filter fun j => !listed.getD j false).length := by
        refine (List.Sublist.length_le ?_)
        have : (List.range' n (ops.size - n)) = (List.range' n (ops.size - n)).filter fun j => !listed.getD j false := by
          symm
          rw [List.filter_eq_self]
          intro j hj
          have := List.mem_range'_1.1 hj
          rw [hno j this.1]; rfl
        rw [this]
        refine List.Sublist.filter _ ?_
        rw [List.range_eq_range', show ops.size = n + (ops.size - n) by omega, ← List.range'_append_1, Nat.zero_add, show n + (ops.size - n) - n = ops.size - n by omega]
        exact List.sublist_append_right _ _
      simpa using hsub
  intro fuel
  induction fuel with
  | zero =>
    intro listed w hsz hno hcl hcnt hw
    have hall : ∀ j, j < n → listed.getD j false = true := by
      intro j hj
      have h0 : (List.range ops.size).filter (fun j => !listed.getD j false) = [] := List.eq_nil_of_length_eq_zero (by omega)
      have := List.filter_eq_nil_iff.1 h0 j (List.mem_range.2 (by omega))
      simpa using this
    exact done 0 listed w hsz hall hno hcnt hw
  | succ fuel ih =>
    intro listed w hsz hno hcl hcnt hw
    by_cases hall : ∀ j, j < n → listed.getD j false = true
    · exact done (fuel + 1) listed w hsz hall hno hcnt hw
    · have hex : ∃ j, j < n ∧ listed.getD j false = false := by
        have h1 := Classical.not_forall.1 hall
        obtain ⟨j, hj⟩ := h1
        have h2 := Classical.not_imp.1 hj
        exact ⟨j, h2.1, by simpa using h2.2⟩
      refine ⟨fun hr => ?_, fun i hi => ?_⟩
      · exfalso
        have key : ∀ k j, j ≤ k → j < n → listed.getD j false = true := by
          intro k
          induction k with
          | zero =>
            intro j hj hlt
            obtain rfl : j = 0 := by omega
            have hz : 0 < ops.size := by omega
            have ho : ops[0]? = some ops[0] := by simp [hz]
            cases hc : listed.getD 0 false with
            | true => rfl
            | false =>
              exfalso
              have hin : 0 < listed.size := by omega
              have hmem : 0 ∈ Region.ready .any ops listed := mem_ready.2 ⟨by simpa [hin] using hc, ops[0], ho, fun e he hb => by
                have := hF.back 0 _ ho e he hb; omega⟩
              rw [hr] at hmem; cases hmem
          | succ k ihk =>
            intro j hj hlt
            by_cases h : j ≤ k
            · exact ihk j h hlt
            · have hz : j < ops.size := by omega
              have ho : ops[j]? = some ops[j] := by simp [hz]
              cases hc : listed.getD j false with
              | true => rfl
              | false =>
                exfalso
                have hin : j < listed.size := by omega
                have hmem : j ∈ Region.ready .any ops listed := mem_ready.2 ⟨by simpa [hin] using hc, ops[j], ho, fun e he hb => by
                  have := hF.back j _ ho e he hb
                  exact ihk e.on (by omega) (by omega)⟩
                rw [hr] at hmem; cases hmem
        exact hall fun j hj => key j j (Nat.le_refl _) hj
      · obtain ⟨h0, o, ho, hrd⟩ := mem_ready.1 hi
        have hlt : i < ops.size := (Array.getElem?_eq_some_iff.1 ho).1
        have hin : i < listed.size := by omega
        have hi0 : listed.getD i false = false := by
          have := h0
          simp [hin] at this ⊢
          exact this
        have hin' : i < n := by
          rcases Nat.lt_or_ge i n with h | h
          · exact h
          · exfalso
            obtain ⟨j, hj, hjf⟩ := hex
            have h1 := hF.tail i j h hlt (by omega)
            have h2 := reach_listed (fun j => listed.getD j false) hcl _ i j o ho hrd h1
            have h3 : listed.getD j false = true := h2
            rw [hjf] at h3; cases h3
        have hstep := hs i o hin' (by simpa using ho)
        rw [act_fill T a₀ i (by omega)] at hstep
        have hsame : ∀ t, t ∈ o.looksAt ops → (fillT ops T (fun j => listed.getD j false) n a₀.tmps)[t]? = (fillT ops T (fun j => decide (j < i)) i a₀.tmps)[t]? := by
          intro t ht
          rw [← fill_more T (fun j => decide (j < i)) a₀.tmps i (fun j hj => decide_eq_false (by omega)) n (by omega)]
          rw [fill_get, fill_get, wr_sameT hF hin' ho _ hcl hi0 hrd t ht n (Nat.le_refl _)]
        have hexec : execOp (⟨fillT ops T (fun j => listed.getD j false) n a₀.tmps, a₀.defers⟩ : Act).eval o = execOp (⟨fillT ops T (fun j => decide (j < i)) i a₀.tmps, a₀.defers⟩ : Act).eval o := by
          refine execOp_congr o (hF.sel i o ho) fun x hx => ?_
          cases x with
          | tmp t =>
            have h2 := hsame t (List.mem_append_left _ (List.mem_filterMap.2 ⟨.tmp t, by simpa using hx, rfl⟩))
            show (fillT ops T _ n a₀.tmps).getD t undef = (fillT ops T _ i a₀.tmps).getD t undef
            rw [Array.getD_eq_getD_getElem?, Array.getD_eq_getD_getElem?, h2]
          | const v => rfl
          | global g => rfl
          | func f => rfl
        have hwant : Region.wanted o (yielded ops (fillT ops T (fun j => listed.getD j false) n a₀.tmps)) = Region.wanted o (yielded ops (fillT ops T (fun j => decide (j < i)) i a₀.tmps)) := by
          unfold Region.wanted
          cases hg : o.guard with
          | none => rfl
          | some gw =>
            obtain ⟨g, want⟩ := gw
            simp only
            unfold yielded
            cases hd : (ops[g]?).bind (·.dst) with
            | none => rfl
            | some d =>
              have hlook : d ∈ o.looksAt ops := List.mem_append_right _ (by rw [hg]; simp [hd])
              simp only [Option.bind_some]
              rw [hsame d hlook]
        have hget : ∀ j, (listed.setIfInBounds i true).getD j false = if j = i then true else listed.getD j false := by
          intro j
          by_cases e : j = i
          · subst e; simp [hin]
          · rw [getD_set_ne false (Ne.symm e), if_neg e]
        have next : ∀ w', I w' → wpAny P .any ops Q fuel (listed.setIfInBounds i true) ((⟨fillT ops T (fun j => listed.getD j false) n a₀.tmps, a₀.defers⟩ : Act).put o.dst (T i)) w' := by
          intro w' hw'
          rw [fill_setT hF T _ _ hin' ho hi0]
          have h3 := ih (listed.setIfInBounds i true) w' (by rw [Array.size_setIfInBounds]; exact hsz) ?_ ?_ ?_ hw'
          · rw [show (fun j => (listed.setIfInBounds i true).getD j false) = (fun j => if j = i then true else listed.getD j false) from funext hget] at h3
            exact h3
          · intro j hj
            rw [hget, if_neg (by omega)]
            exact hno j hj
          · intro j p hj hp e he hb
            rw [hget] at hj
            by_cases ej : j = i
            · subst ej
              rw [ho] at hp
              injection hp with hp
              subst hp
              exact getD_set_true (hrd e he hb)
            · rw [if_neg ej] at hj
              exact getD_set_true (hcl j p hj hp e he hb)
          · have hlen : ((List.range ops.size).filter fun j => !(listed.setIfInBounds i true).getD j false).length < ((List.range ops.size).filter fun j => !listed.getD j false).length := by
              have hsub : ((List.range ops.size).filter fun j => !(listed.setIfInBounds i true).getD j false) = ((List.range ops.size).filter fun j => !listed.getD j false).filter (fun j => !decide (j = i)) := by
                rw [List.filter_filter]
                congr 1
                funext j
                rw [hget]
                by_cases e : j = i
                · simp [e]
                · simp [e]
              rw [hsub]
              refine List.length_filter_lt_length_iff_exists.2 ⟨i, List.mem_filter.2 ⟨List.mem_range.2 hlt, by simp [hi0]⟩, by simp⟩
            omega
        unfold wpOp
        rw [ho]
        simp only
        rw [hwant]
        rcases hstep with ⟨hw1, hwp⟩ | ⟨hw1, hv⟩
        · simp only at hw1
          rw [if_pos hw1]
          left
          have h4 := wp_same (a := ⟨fillT ops T (fun j => listed.getD j false) n a₀.tmps, a₀.defers⟩) (by show (fillT ops T _ _ _).size = (fillT ops T _ _ _).size; rw [fill_size, fill_size]) hexec (hwp w hw)
          exact Oper.wp_mono (fun a' w' ⟨ha, hI⟩ => by rw [ha]; exact next w' hI) h4
        · simp only at hw1
          rw [if_neg (by rw [hw1]; exact Bool.false_ne_true), ← hv]
          exact next w hw
/-- The first n operations by 'Walk', what is left as a list. -/
def WalkT (P : Program) (ops : Array Oper) (Q : Exit → Act → World → Prop) (I : World → Prop) : Nat → List Oper → Act → Prop
  | 0, l, a => ∀ w, I w → wpList P ops Q l a w
  | _ + 1, [], a => ∀ w, I w → wpList P ops Q [] a w
  | n + 1, o :: rest, a => ∃ v, StepOk P ops Q I o a v ∧ WalkT P ops Q I n rest (a.put o.dst v)
theorem walkT_T : ∀ (n : Nat) (l : List Oper) (a : Act), n ≤ l.length → WalkT P ops Q I n l a → ∃ T : Nat → Value,
    (∀ (i : Nat) (o : Oper), i < n → l[i]? = some o → StepOk P ops Q I o (actL l T a i) (T i)) ∧ (∀ w, I w → wpList P ops Q (l.drop n) (actL l T a n) w) := by
  intro n
  induction n with
  | zero => intro l a _ h; exact ⟨fun _ => undef, fun i o hi => by omega, h⟩
  | succ n ih =>
    intro l a hle h
    cases l with
    | nil => simp at hle
    | cons o rest =>
      obtain ⟨v, hv, hr⟩ := h
      obtain ⟨T, h1, h2⟩ := ih rest _ (by simpa using hle) hr
      refine ⟨fun i => match i with | 0 => v | i + 1 => T i, ?_, ?_⟩
      · intro i p hi hp
        cases i with
        | zero =>
          have : o = p := by simpa using hp
          subst this
          exact hv
        | succ i =>
          rw [act_shift]
          exact h1 i p (by omega) (by simpa using hp)
      · intro w hw
        rw [act_shift]
        exact h2 w hw
theorem region_canonT {id : Nat} {a : Act} {w : World} (n : Nat) (hm : P.follows .mixedOrders = true) (hok : headOk ops n = true) (htl : tailOk ops n = true) (hI : I { w with drawn := w.drawn + 1 })
    (h : WalkT P ops Q I n ops.toList a) : (Code.region id ops true).wp P Q a w := by
  have hF := fineT_of hok htl
  obtain ⟨T, h1, h2⟩ := walkT_T n _ _ (by simpa using hF.le) h
  refine wp_region_any hm ?_
  have h3 := canonT_any hF T a h1 h2 ops.size (Array.replicate ops.size false) { w with drawn := w.drawn + 1 } (by simp) ?_ ?_ ?_ hI
  · have e : fillT ops T (fun j => (Array.replicate ops.size false).getD j false) n a.tmps = a.tmps := by
      have : ∀ k, fillT ops T (fun j => (Array.replicate ops.size false).getD j false) k a.tmps = a.tmps := by
        intro k
        induction k with
        | zero => rfl
        | succ k ih =>
          unfold fillT
          have : (Array.replicate ops.size false).getD k false = false := by
            rcases Nat.lt_or_ge k ops.size with h | h
            · simp [h]
            · simp [h]
          simp only [this, Bool.false_eq_true, if_false]
          exact ih
      exact this _
    rw [e] at h3
    exact h3
  · intro j _
    rcases Nat.lt_or_ge j ops.size with h | h
    · simp [h]
    · simp [h]
  · intro j p hj
    exfalso
    rcases Nat.lt_or_ge j ops.size with h | h
    · simp [h] at hj
    · simp [h] at hj
  · exact Nat.le_trans (List.length_filter_le _ _) (by simp)
/-! The moves. -/
variable {o : Oper} {rest : List Oper} {a : Act} {n : Nat}
theorem pure (v : Value) (hg : Region.wanted o (yielded ops a.tmps) = true) (h : ∀ w, (execOp a.eval o).run P w = .ok (.value v) w)
    (hr : WalkT P ops Q I n rest (a.put o.dst v)) : WalkT P ops Q I (n + 1) (o :: rest) a := ⟨v, .inl ⟨hg, fun w hw => by unfold Oper.wp; rw [h w]; exact ⟨rfl, hw⟩⟩, hr⟩
theorem skip (hg : Region.wanted o (yielded ops a.tmps) = false) (hr : WalkT P ops Q I n rest (a.put o.dst undef)) : WalkT P ops Q I (n + 1) (o :: rest) a := ⟨undef, .inr ⟨hg, rfl⟩, hr⟩
theorem call (v : Value) (f : FuncId) (args : Array Value) (hg : Region.wanted o (yielded ops a.tmps) = true) (h : ∀ w, (execOp a.eval o).run P w = .ok (.enter f args) w)
    (hc : ∀ w, I w → Calls P f args w fun e w' => e = .returned v ∧ I w') (hr : WalkT P ops Q I n rest (a.put o.dst v)) : WalkT P ops Q I (n + 1) (o :: rest) a :=
  ⟨v, .inl ⟨hg, fun w hw => by
    unfold Oper.wp; rw [h w]
    refine Calls.mono (hc w hw) fun e w' ⟨he, hi⟩ => ?_
    subst he
    exact ⟨rfl, hi⟩⟩, hr⟩
theorem pureS (s : Sem Next) (v : Value) (hg : Region.wanted o (yielded ops a.tmps) = true) (hs : execOp a.eval o = s) (h : ∀ w, s.run P w = .ok (.value v) w)
    (hr : WalkT P ops Q I n rest (a.put o.dst v)) : WalkT P ops Q I (n + 1) (o :: rest) a := pure v hg (fun w => by rw [hs]; exact h w) hr
theorem readsS (s : Sem Next) (v : Value) (hg : Region.wanted o (yielded ops a.tmps) = true) (hs : execOp a.eval o = s) (h : ∀ w, I w → s.run P w = .ok (.value v) w)
    (hr : WalkT P ops Q I n rest (a.put o.dst v)) : WalkT P ops Q I (n + 1) (o :: rest) a :=
  ⟨v, .inl ⟨hg, fun w hw => by unfold Oper.wp; rw [hs, h w hw]; exact ⟨rfl, hw⟩⟩, hr⟩
theorem tail {l : List Oper} (h : ∀ w, I w → wpList P ops Q l a w) : WalkT P ops Q I 0 l a := h
end
end Go.Proofs.Ytfhigpmpngfkbaa.CanonT
