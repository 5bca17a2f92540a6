/- The word of a word's instruction is it. No program in sight. -/
import Derived.Test.YtpmpibcfmejbfaaInstBack0
namespace Go.Proofs.Ytpmpibcfmejbfaa.Inst
open Go.RowKit Go.Proofs.Ytpmpibcfmejbfaa.Bits
set_option linter.unusedSimpArgs false
set_option linter.unusedVariables false
set_option maxHeartbeats 8000000 in
theorem word_back_R (k : Nat) (hs : sh k = 82) (x z0 z1 z2 z3 : BitVec 64) (hx : ∀ i, 32 ≤ i → i < 64 → x.getLsbD i = false) (h : x &&& fmk k = fwk k) : word_R k (getI x 7 5) (getI x 15 5) (getI x 20 5) z3 &&& 4294967295#64 = x := by
  obtain ⟨h1, h2⟩ := fix_R k hs
  rw [h1, h2] at h
  have hb : ∀ i, i < 64 → _ := fun i (hi : i < 64) => congrArg (fun v => BitVec.getLsbD v i) h
  clear h h1 h2
  unfold word_R
  generalize cd k = c at hb ⊢
  generalize ff k = f at hb ⊢
  generalize ot k = o at hb ⊢
  apply Bits.ext; intro i hi
  rcases lt64 i hi with rfl | rfl | rfl | rfl | rfl | rfl | rfl | rfl | rfl | rfl | rfl | rfl | rfl | rfl | rfl | rfl | rfl | rfl | rfl | rfl | rfl | rfl | rfl | rfl | rfl | rfl | rfl | rfl | rfl | rfl | rfl | rfl | rfl | rfl | rfl | rfl | rfl | rfl | rfl | rfl | rfl | rfl | rfl | rfl | rfl | rfl | rfl | rfl | rfl | rfl | rfl | rfl | rfl | rfl | rfl | rfl | rfl | rfl | rfl | rfl | rfl | rfl | rfl | rfl <;> (have h' := hb _ hi; clear hb; try simp (disch := omega) [-BitVec.getLsbD_eq_getElem, BitVec.getLsbD_and, putI_bit, getI_bit, signI_bit] at h'; first | (simp (disch := omega) [-BitVec.getLsbD_eq_getElem, BitVec.getLsbD_and, putI_bit, getI_bit, signI_bit, h', hx]; done) | (simp (disch := omega) [-BitVec.getLsbD_eq_getElem, BitVec.getLsbD_and, putI_bit, getI_bit, signI_bit, hx]; done))
set_option maxHeartbeats 8000000 in
theorem word_back_G (k : Nat) (hs : sh k = 71) (x z0 z1 z2 z3 : BitVec 64) (hx : ∀ i, 32 ≤ i → i < 64 → x.getLsbD i = false) (h : x &&& fmk k = fwk k) : word_G k (getI x 7 5) (getI x 15 5) z2 z3 &&& 4294967295#64 = x := by
  obtain ⟨h1, h2⟩ := fix_G k hs
  rw [h1, h2] at h
  have hb : ∀ i, i < 64 → _ := fun i (hi : i < 64) => congrArg (fun v => BitVec.getLsbD v i) h
  clear h h1 h2
  unfold word_G
  generalize cd k = c at hb ⊢
  generalize ff k = f at hb ⊢
  generalize ot k = o at hb ⊢
  apply Bits.ext; intro i hi
  rcases lt64 i hi with rfl | rfl | rfl | rfl | rfl | rfl | rfl | rfl | rfl | rfl | rfl | rfl | rfl | rfl | rfl | rfl | rfl | rfl | rfl | rfl | rfl | rfl | rfl | rfl | rfl | rfl | rfl | rfl | rfl | rfl | rfl | rfl | rfl | rfl | rfl | rfl | rfl | rfl | rfl | rfl | rfl | rfl | rfl | rfl | rfl | rfl | rfl | rfl | rfl | rfl | rfl | rfl | rfl | rfl | rfl | rfl | rfl | rfl | rfl | rfl | rfl | rfl | rfl | rfl <;> (have h' := hb _ hi; clear hb; try simp (disch := omega) [-BitVec.getLsbD_eq_getElem, BitVec.getLsbD_and, putI_bit, getI_bit, signI_bit] at h'; first | (simp (disch := omega) [-BitVec.getLsbD_eq_getElem, BitVec.getLsbD_and, putI_bit, getI_bit, signI_bit, h', hx]; done) | (simp (disch := omega) [-BitVec.getLsbD_eq_getElem, BitVec.getLsbD_and, putI_bit, getI_bit, signI_bit, hx]; done))
set_option maxHeartbeats 8000000 in
theorem immfit_I (x : BitVec 64) : fitB_I (signI (putI 0#64 0 12 (getI x 20 12)) 12) = true := by
  unfold fitB_I
  rw [Bool.and_eq_true]
  refine ⟨(fits_yes _ 12 (by omega) (by omega)).2 fun i hw hi => ?_, (low_zero _ 0 (by omega)).2 fun i hi => ?_⟩
  · simp (disch := omega) only [putI_bit, getI_bit, signI_bit, BitVec.getLsbD_zero]
    simp (disch := omega) [-BitVec.getLsbD_eq_getElem, putI_bit, getI_bit, signI_bit, show ¬ i < 12 by omega]
    try omega
  · simp (disch := omega) [-BitVec.getLsbD_eq_getElem, putI_bit, getI_bit, signI_bit, show i < 12 by omega]
    try omega
set_option maxHeartbeats 8000000 in
theorem word_back_I (k : Nat) (hs : sh k = 73) (x z0 z1 z2 z3 : BitVec 64) (hx : ∀ i, 32 ≤ i → i < 64 → x.getLsbD i = false) (h : x &&& fmk k = fwk k) : word_I k (getI x 7 5) (getI x 15 5) z2 (signI (putI 0#64 0 12 (getI x 20 12)) 12) &&& 4294967295#64 = x := by
  obtain ⟨h1, h2⟩ := fix_I k hs
  rw [h1, h2] at h
  have hb : ∀ i, i < 64 → _ := fun i (hi : i < 64) => congrArg (fun v => BitVec.getLsbD v i) h
  clear h h1 h2
  unfold word_I
  generalize cd k = c at hb ⊢
  generalize ff k = f at hb ⊢
  generalize ot k = o at hb ⊢
  apply Bits.ext; intro i hi
  rcases lt64 i hi with rfl | rfl | rfl | rfl | rfl | rfl | rfl | rfl | rfl | rfl | rfl | rfl | rfl | rfl | rfl | rfl | rfl | rfl | rfl | rfl | rfl | rfl | rfl | rfl | rfl | rfl | rfl | rfl | rfl | rfl | rfl | rfl | rfl | rfl | rfl | rfl | rfl | rfl | rfl | rfl | rfl | rfl | rfl | rfl | rfl | rfl | rfl | rfl | rfl | rfl | rfl | rfl | rfl | rfl | rfl | rfl | rfl | rfl | rfl | rfl | rfl | rfl | rfl | rfl <;> (have h' := hb _ hi; clear hb; try simp (disch := omega) [-BitVec.getLsbD_eq_getElem, BitVec.getLsbD_and, putI_bit, getI_bit, signI_bit] at h'; first | (simp (disch := omega) [-BitVec.getLsbD_eq_getElem, BitVec.getLsbD_and, putI_bit, getI_bit, signI_bit, h', hx]; done) | (simp (disch := omega) [-BitVec.getLsbD_eq_getElem, BitVec.getLsbD_and, putI_bit, getI_bit, signI_bit, hx]; done))
set_option maxHeartbeats 8000000 in
theorem immfit_C (x : BitVec 64) : fitB_C (putI 0#64 0 12 (getI x 20 12)) = true := by
  unfold fitB_C
  rw [Bool.and_eq_true]
  refine ⟨(fits_no _ 12 (by omega) (by omega)).2 fun i hw hi => ?_, (low_zero _ 0 (by omega)).2 fun i hi => ?_⟩
  · simp (disch := omega) only [putI_bit, getI_bit, signI_bit, BitVec.getLsbD_zero]
    simp (disch := omega) [-BitVec.getLsbD_eq_getElem, putI_bit, getI_bit, signI_bit, show ¬ i < 12 by omega]
    try omega
  · simp (disch := omega) [-BitVec.getLsbD_eq_getElem, putI_bit, getI_bit, signI_bit, show i < 12 by omega]
    try omega
set_option maxHeartbeats 8000000 in
theorem word_back_C (k : Nat) (hs : sh k = 67) (x z0 z1 z2 z3 : BitVec 64) (hx : ∀ i, 32 ≤ i → i < 64 → x.getLsbD i = false) (h : x &&& fmk k = fwk k) : word_C k (getI x 7 5) (getI x 15 5) z2 (putI 0#64 0 12 (getI x 20 12)) &&& 4294967295#64 = x := by
  obtain ⟨h1, h2⟩ := fix_C k hs
  rw [h1, h2] at h
  have hb : ∀ i, i < 64 → _ := fun i (hi : i < 64) => congrArg (fun v => BitVec.getLsbD v i) h
  clear h h1 h2
  unfold word_C
  generalize cd k = c at hb ⊢
  generalize ff k = f at hb ⊢
  generalize ot k = o at hb ⊢
  apply Bits.ext; intro i hi
  rcases lt64 i hi with rfl | rfl | rfl | rfl | rfl | rfl | rfl | rfl | rfl | rfl | rfl | rfl | rfl | rfl | rfl | rfl | rfl | rfl | rfl | rfl | rfl | rfl | rfl | rfl | rfl | rfl | rfl | rfl | rfl | rfl | rfl | rfl | rfl | rfl | rfl | rfl | rfl | rfl | rfl | rfl | rfl | rfl | rfl | rfl | rfl | rfl | rfl | rfl | rfl | rfl | rfl | rfl | rfl | rfl | rfl | rfl | rfl | rfl | rfl | rfl | rfl | rfl | rfl | rfl <;> (have h' := hb _ hi; clear hb; try simp (disch := omega) [-BitVec.getLsbD_eq_getElem, BitVec.getLsbD_and, putI_bit, getI_bit, signI_bit] at h'; first | (simp (disch := omega) [-BitVec.getLsbD_eq_getElem, BitVec.getLsbD_and, putI_bit, getI_bit, signI_bit, h', hx]; done) | (simp (disch := omega) [-BitVec.getLsbD_eq_getElem, BitVec.getLsbD_and, putI_bit, getI_bit, signI_bit, hx]; done))
set_option maxHeartbeats 8000000 in
theorem immfit_H (x : BitVec 64) : fitB_H (putI 0#64 0 6 (getI x 20 6)) = true := by
  unfold fitB_H
  rw [Bool.and_eq_true]
  refine ⟨(fits_no _ 6 (by omega) (by omega)).2 fun i hw hi => ?_, (low_zero _ 0 (by omega)).2 fun i hi => ?_⟩
  · simp (disch := omega) only [putI_bit, getI_bit, signI_bit, BitVec.getLsbD_zero]
    simp (disch := omega) [-BitVec.getLsbD_eq_getElem, putI_bit, getI_bit, signI_bit, show ¬ i < 6 by omega]
    try omega
  · simp (disch := omega) [-BitVec.getLsbD_eq_getElem, putI_bit, getI_bit, signI_bit, show i < 6 by omega]
    try omega
set_option maxHeartbeats 8000000 in
theorem word_back_H (k : Nat) (hs : sh k = 72) (x z0 z1 z2 z3 : BitVec 64) (hx : ∀ i, 32 ≤ i → i < 64 → x.getLsbD i = false) (h : x &&& fmk k = fwk k) : word_H k (getI x 7 5) (getI x 15 5) z2 (putI 0#64 0 6 (getI x 20 6)) &&& 4294967295#64 = x := by
  obtain ⟨h1, h2⟩ := fix_H k hs
  rw [h1, h2] at h
  have hb : ∀ i, i < 64 → _ := fun i (hi : i < 64) => congrArg (fun v => BitVec.getLsbD v i) h
  clear h h1 h2
  unfold word_H
  generalize cd k = c at hb ⊢
  generalize ff k = f at hb ⊢
  generalize ot k = o at hb ⊢
  apply Bits.ext; intro i hi
  rcases lt64 i hi with rfl | rfl | rfl | rfl | rfl | rfl | rfl | rfl | rfl | rfl | rfl | rfl | rfl | rfl | rfl | rfl | rfl | rfl | rfl | rfl | rfl | rfl | rfl | rfl | rfl | rfl | rfl | rfl | rfl | rfl | rfl | rfl | rfl | rfl | rfl | rfl | rfl | rfl | rfl | rfl | rfl | rfl | rfl | rfl | rfl | rfl | rfl | rfl | rfl | rfl | rfl | rfl | rfl | rfl | rfl | rfl | rfl | rfl | rfl | rfl | rfl | rfl | rfl | rfl <;> (have h' := hb _ hi; clear hb; try simp (disch := omega) [-BitVec.getLsbD_eq_getElem, BitVec.getLsbD_and, putI_bit, getI_bit, signI_bit] at h'; first | (simp (disch := omega) [-BitVec.getLsbD_eq_getElem, BitVec.getLsbD_and, putI_bit, getI_bit, signI_bit, h', hx]; done) | (simp (disch := omega) [-BitVec.getLsbD_eq_getElem, BitVec.getLsbD_and, putI_bit, getI_bit, signI_bit, hx]; done))
set_option maxHeartbeats 8000000 in
theorem immfit_S (x : BitVec 64) : fitB_S (signI (putI (putI 0#64 0 5 (getI x 7 5)) 5 7 (getI x 25 7)) 12) = true := by
  unfold fitB_S
  rw [Bool.and_eq_true]
  refine ⟨(fits_yes _ 12 (by omega) (by omega)).2 fun i hw hi => ?_, (low_zero _ 0 (by omega)).2 fun i hi => ?_⟩
  · simp (disch := omega) only [putI_bit, getI_bit, signI_bit, BitVec.getLsbD_zero]
    simp (disch := omega) [-BitVec.getLsbD_eq_getElem, putI_bit, getI_bit, signI_bit, show ¬ i < 12 by omega]
    try omega
  · simp (disch := omega) [-BitVec.getLsbD_eq_getElem, putI_bit, getI_bit, signI_bit, show i < 12 by omega]
    try omega
set_option maxHeartbeats 8000000 in
theorem word_back_S (k : Nat) (hs : sh k = 83) (x z0 z1 z2 z3 : BitVec 64) (hx : ∀ i, 32 ≤ i → i < 64 → x.getLsbD i = false) (h : x &&& fmk k = fwk k) : word_S k z0 (getI x 15 5) (getI x 20 5) (signI (putI (putI 0#64 0 5 (getI x 7 5)) 5 7 (getI x 25 7)) 12) &&& 4294967295#64 = x := by
  obtain ⟨h1, h2⟩ := fix_S k hs
  rw [h1, h2] at h
  have hb : ∀ i, i < 64 → _ := fun i (hi : i < 64) => congrArg (fun v => BitVec.getLsbD v i) h
  clear h h1 h2
  unfold word_S
  generalize cd k = c at hb ⊢
  generalize ff k = f at hb ⊢
  generalize ot k = o at hb ⊢
  apply Bits.ext; intro i hi
  rcases lt64 i hi with rfl | rfl | rfl | rfl | rfl | rfl | rfl | rfl | rfl | rfl | rfl | rfl | rfl | rfl | rfl | rfl | rfl | rfl | rfl | rfl | rfl | rfl | rfl | rfl | rfl | rfl | rfl | rfl | rfl | rfl | rfl | rfl | rfl | rfl | rfl | rfl | rfl | rfl | rfl | rfl | rfl | rfl | rfl | rfl | rfl | rfl | rfl | rfl | rfl | rfl | rfl | rfl | rfl | rfl | rfl | rfl | rfl | rfl | rfl | rfl | rfl | rfl | rfl | rfl <;> (have h' := hb _ hi; clear hb; try simp (disch := omega) [-BitVec.getLsbD_eq_getElem, BitVec.getLsbD_and, putI_bit, getI_bit, signI_bit] at h'; first | (simp (disch := omega) [-BitVec.getLsbD_eq_getElem, BitVec.getLsbD_and, putI_bit, getI_bit, signI_bit, h', hx]; done) | (simp (disch := omega) [-BitVec.getLsbD_eq_getElem, BitVec.getLsbD_and, putI_bit, getI_bit, signI_bit, hx]; done))
set_option maxHeartbeats 8000000 in
theorem immfit_B (x : BitVec 64) : fitB_B (signI (putI (putI (putI (putI 0#64 1 4 (getI x 8 4)) 5 6 (getI x 25 6)) 11 1 (getI x 7 1)) 12 1 (getI x 31 1)) 13) = true := by
  unfold fitB_B
  rw [Bool.and_eq_true]
  refine ⟨(fits_yes _ 13 (by omega) (by omega)).2 fun i hw hi => ?_, (low_zero _ 1 (by omega)).2 fun i hi => ?_⟩
  · simp (disch := omega) only [putI_bit, getI_bit, signI_bit, BitVec.getLsbD_zero]
    simp (disch := omega) [-BitVec.getLsbD_eq_getElem, putI_bit, getI_bit, signI_bit, show ¬ i < 13 by omega]
    try omega
  · simp (disch := omega) [-BitVec.getLsbD_eq_getElem, putI_bit, getI_bit, signI_bit, show i < 13 by omega]
    try omega
set_option maxHeartbeats 8000000 in
theorem word_back_B (k : Nat) (hs : sh k = 66) (x z0 z1 z2 z3 : BitVec 64) (hx : ∀ i, 32 ≤ i → i < 64 → x.getLsbD i = false) (h : x &&& fmk k = fwk k) : word_B k z0 (getI x 15 5) (getI x 20 5) (signI (putI (putI (putI (putI 0#64 1 4 (getI x 8 4)) 5 6 (getI x 25 6)) 11 1 (getI x 7 1)) 12 1 (getI x 31 1)) 13) &&& 4294967295#64 = x := by
  obtain ⟨h1, h2⟩ := fix_B k hs
  rw [h1, h2] at h
  have hb : ∀ i, i < 64 → _ := fun i (hi : i < 64) => congrArg (fun v => BitVec.getLsbD v i) h
  clear h h1 h2
  unfold word_B
  generalize cd k = c at hb ⊢
  generalize ff k = f at hb ⊢
  generalize ot k = o at hb ⊢
  apply Bits.ext; intro i hi
  rcases lt64 i hi with rfl | rfl | rfl | rfl | rfl | rfl | rfl | rfl | rfl | rfl | rfl | rfl | rfl | rfl | rfl | rfl | rfl | rfl | rfl | rfl | rfl | rfl | rfl | rfl | rfl | rfl | rfl | rfl | rfl | rfl | rfl | rfl | rfl | rfl | rfl | rfl | rfl | rfl | rfl | rfl | rfl | rfl | rfl | rfl | rfl | rfl | rfl | rfl | rfl | rfl | rfl | rfl | rfl | rfl | rfl | rfl | rfl | rfl | rfl | rfl | rfl | rfl | rfl | rfl <;> (have h' := hb _ hi; clear hb; try simp (disch := omega) [-BitVec.getLsbD_eq_getElem, BitVec.getLsbD_and, putI_bit, getI_bit, signI_bit] at h'; first | (simp (disch := omega) [-BitVec.getLsbD_eq_getElem, BitVec.getLsbD_and, putI_bit, getI_bit, signI_bit, h', hx]; done) | (simp (disch := omega) [-BitVec.getLsbD_eq_getElem, BitVec.getLsbD_and, putI_bit, getI_bit, signI_bit, hx]; done))
set_option maxHeartbeats 8000000 in
theorem immfit_U (x : BitVec 64) : fitB_U (signI (putI 0#64 12 20 (getI x 12 20)) 32) = true := by
  unfold fitB_U
  rw [Bool.and_eq_true]
  refine ⟨(fits_yes _ 32 (by omega) (by omega)).2 fun i hw hi => ?_, (low_zero _ 12 (by omega)).2 fun i hi => ?_⟩
  · simp (disch := omega) only [putI_bit, getI_bit, signI_bit, BitVec.getLsbD_zero]
    simp (disch := omega) [-BitVec.getLsbD_eq_getElem, putI_bit, getI_bit, signI_bit, show ¬ i < 32 by omega]
    try omega
  · simp (disch := omega) [-BitVec.getLsbD_eq_getElem, putI_bit, getI_bit, signI_bit, show i < 32 by omega]
    try omega
set_option maxHeartbeats 8000000 in
theorem word_back_U (k : Nat) (hs : sh k = 85) (x z0 z1 z2 z3 : BitVec 64) (hx : ∀ i, 32 ≤ i → i < 64 → x.getLsbD i = false) (h : x &&& fmk k = fwk k) : word_U k (getI x 7 5) z1 z2 (signI (putI 0#64 12 20 (getI x 12 20)) 32) &&& 4294967295#64 = x := by
  obtain ⟨h1, h2⟩ := fix_U k hs
  rw [h1, h2] at h
  have hb : ∀ i, i < 64 → _ := fun i (hi : i < 64) => congrArg (fun v => BitVec.getLsbD v i) h
  clear h h1 h2
  unfold word_U
  generalize cd k = c at hb ⊢
  generalize ff k = f at hb ⊢
  generalize ot k = o at hb ⊢
  apply Bits.ext; intro i hi
  rcases lt64 i hi with rfl | rfl | rfl | rfl | rfl | rfl | rfl | rfl | rfl | rfl | rfl | rfl | rfl | rfl | rfl | rfl | rfl | rfl | rfl | rfl | rfl | rfl | rfl | rfl | rfl | rfl | rfl | rfl | rfl | rfl | rfl | rfl | rfl | rfl | rfl | rfl | rfl | rfl | rfl | rfl | rfl | rfl | rfl | rfl | rfl | rfl | rfl | rfl | rfl | rfl | rfl | rfl | rfl | rfl | rfl | rfl | rfl | rfl | rfl | rfl | rfl | rfl | rfl | rfl <;> (have h' := hb _ hi; clear hb; try simp (disch := omega) [-BitVec.getLsbD_eq_getElem, BitVec.getLsbD_and, putI_bit, getI_bit, signI_bit] at h'; first | (simp (disch := omega) [-BitVec.getLsbD_eq_getElem, BitVec.getLsbD_and, putI_bit, getI_bit, signI_bit, h', hx]; done) | (simp (disch := omega) [-BitVec.getLsbD_eq_getElem, BitVec.getLsbD_and, putI_bit, getI_bit, signI_bit, hx]; done))
set_option maxHeartbeats 8000000 in
theorem immfit_J (x : BitVec 64) : fitB_J (signI (putI (putI (putI (putI 0#64 12 8 (getI x 12 8)) 11 1 (getI x 20 1)) 1 10 (getI x 21 10)) 20 1 (getI x 31 1)) 21) = true := by
  unfold fitB_J
  rw [Bool.and_eq_true]
  refine ⟨(fits_yes _ 21 (by omega) (by omega)).2 fun i hw hi => ?_, (low_zero _ 1 (by omega)).2 fun i hi => ?_⟩
  · simp (disch := omega) only [putI_bit, getI_bit, signI_bit, BitVec.getLsbD_zero]
    simp (disch := omega) [-BitVec.getLsbD_eq_getElem, putI_bit, getI_bit, signI_bit, show ¬ i < 21 by omega]
    try omega
  · simp (disch := omega) [-BitVec.getLsbD_eq_getElem, putI_bit, getI_bit, signI_bit, show i < 21 by omega]
    try omega
set_option maxHeartbeats 8000000 in
theorem word_back_J (k : Nat) (hs : sh k = 74) (x z0 z1 z2 z3 : BitVec 64) (hx : ∀ i, 32 ≤ i → i < 64 → x.getLsbD i = false) (h : x &&& fmk k = fwk k) : word_J k (getI x 7 5) z1 z2 (signI (putI (putI (putI (putI 0#64 12 8 (getI x 12 8)) 11 1 (getI x 20 1)) 1 10 (getI x 21 10)) 20 1 (getI x 31 1)) 21) &&& 4294967295#64 = x := by
  obtain ⟨h1, h2⟩ := fix_J k hs
  rw [h1, h2] at h
  have hb : ∀ i, i < 64 → _ := fun i (hi : i < 64) => congrArg (fun v => BitVec.getLsbD v i) h
  clear h h1 h2
  unfold word_J
  generalize cd k = c at hb ⊢
  generalize ff k = f at hb ⊢
  generalize ot k = o at hb ⊢
  apply Bits.ext; intro i hi
  rcases lt64 i hi with rfl | rfl | rfl | rfl | rfl | rfl | rfl | rfl | rfl | rfl | rfl | rfl | rfl | rfl | rfl | rfl | rfl | rfl | rfl | rfl | rfl | rfl | rfl | rfl | rfl | rfl | rfl | rfl | rfl | rfl | rfl | rfl | rfl | rfl | rfl | rfl | rfl | rfl | rfl | rfl | rfl | rfl | rfl | rfl | rfl | rfl | rfl | rfl | rfl | rfl | rfl | rfl | rfl | rfl | rfl | rfl | rfl | rfl | rfl | rfl | rfl | rfl | rfl | rfl <;> (have h' := hb _ hi; clear hb; try simp (disch := omega) [-BitVec.getLsbD_eq_getElem, BitVec.getLsbD_and, putI_bit, getI_bit, signI_bit] at h'; first | (simp (disch := omega) [-BitVec.getLsbD_eq_getElem, BitVec.getLsbD_and, putI_bit, getI_bit, signI_bit, h', hx]; done) | (simp (disch := omega) [-BitVec.getLsbD_eq_getElem, BitVec.getLsbD_and, putI_bit, getI_bit, signI_bit, hx]; done))
set_option maxHeartbeats 8000000 in
theorem word_back_N (k : Nat) (hs : sh k = 78) (x z0 z1 z2 z3 : BitVec 64) (hx : ∀ i, 32 ≤ i → i < 64 → x.getLsbD i = false) (h : x &&& fmk k = fwk k) : word_N k z0 z1 z2 z3 &&& 4294967295#64 = x := by
  obtain ⟨h1, h2⟩ := fix_N k hs
  rw [h1, h2] at h
  have hb : ∀ i, i < 64 → _ := fun i (hi : i < 64) => congrArg (fun v => BitVec.getLsbD v i) h
  clear h h1 h2
  unfold word_N
  generalize cd k = c at hb ⊢
  generalize ff k = f at hb ⊢
  generalize ot k = o at hb ⊢
  apply Bits.ext; intro i hi
  rcases lt64 i hi with rfl | rfl | rfl | rfl | rfl | rfl | rfl | rfl | rfl | rfl | rfl | rfl | rfl | rfl | rfl | rfl | rfl | rfl | rfl | rfl | rfl | rfl | rfl | rfl | rfl | rfl | rfl | rfl | rfl | rfl | rfl | rfl | rfl | rfl | rfl | rfl | rfl | rfl | rfl | rfl | rfl | rfl | rfl | rfl | rfl | rfl | rfl | rfl | rfl | rfl | rfl | rfl | rfl | rfl | rfl | rfl | rfl | rfl | rfl | rfl | rfl | rfl | rfl | rfl <;> (have h' := hb _ hi; clear hb; try simp (disch := omega) [-BitVec.getLsbD_eq_getElem, BitVec.getLsbD_and, putI_bit, getI_bit, signI_bit] at h'; first | (simp (disch := omega) [-BitVec.getLsbD_eq_getElem, BitVec.getLsbD_and, putI_bit, getI_bit, signI_bit, h', hx]; done) | (simp (disch := omega) [-BitVec.getLsbD_eq_getElem, BitVec.getLsbD_and, putI_bit, getI_bit, signI_bit, hx]; done))
end Go.Proofs.Ytpmpibcfmejbfaa.Inst
