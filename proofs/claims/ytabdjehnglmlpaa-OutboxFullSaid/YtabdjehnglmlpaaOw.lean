/- OutboxFull, plainly: so many may wait, and not one more. -/
import Derived.Test.YtabdjehnglmlpaaOi
namespace Go.Proofs.Ytabdjehnglmlpaa
open PO (S45 z45 rd_T45)
set_option linter.unusedVariables false

theorem place_all {p : No → Bool} {l : List No} (h : ∀ x ∈ l, p x = false) : place p l = l.length := List.findIdx_eq_length.2 h
/-- k notices that were put in at now. -/
def fullL (n : No) (now : Int) (k : Nat) : List No := (List.range k).map fun i : Nat => asNew n ((i : Int) + 1) now
theorem fullL_len (n : No) (now : Int) (k : Nat) : (fullL n now k).length = k := by simp [fullL]
theorem fullL_rd {n : No} {now : Int} {k i : Nat} (h : i < k) : rd_T45 (fullL n now k) i = asNew n ((i : Int) + 1) now := by
  rw [rd_get (by rw [fullL_len]; exact h)]
  simp [fullL]
theorem fullL_succ (n : No) (now : Int) (k : Nat) : fullL n now (k + 1) = fullL n now k ++ [asNew n ((k : Int) + 1) now] := by
  unfold fullL
  rw [List.range_succ, List.map_append]
  rfl
theorem fullL_waits {n : No} {now : Int} {k : Nat} : ∀ x ∈ fullL n now k, waitsB x = true := by
  intro x hx
  obtain ⟨i, -, rfl⟩ := List.mem_map.1 hx
  rfl
theorem not_waits {l : List No} (h : ∀ x ∈ l, waitsB x = true) : place (fun n => !waitsB n) l = l.length := place_all (fun x hx => by rw [h x hx]; rfl)
section
variable {n : No} {now : Int} (hi : instO now = true) (hf : fitsB n = true)
include hi hf
theorem no_refusal : ¬ (instO now = false ∨ fitsB n = false) := by rw [hi, hf]; decide
theorem full_put {k : Nat} (hk : k < 128) : putS ((k : Int), fullL n now k) n now = ((((k + 1 : Nat) : Int), fullL n now (k + 1)), ((k : Int) + 1, 0)) := by
  unfold putS
  rw [if_neg (no_refusal hi hf), if_neg (by simp only; omega), if_neg (by simp only [fullL_len]; omega)]
  have : roomed (fullL n now k) = fullL n now k := by unfold roomed; rw [if_pos (by rw [fullL_len]; exact hk)]
  rw [fullL_succ, this]
  rfl
theorem full_full {l : List No} {t : Int} (h : ∀ x ∈ l, waitsB x = true) (hl : l.length = 128) (ht : t < 1152921504606846976) : putS (t, l) n now = ((t, l), (0, 30)) := by
  unfold putS
  rw [if_neg (no_refusal hi hf), if_neg (by simp only; omega), if_pos ⟨by simp only; omega, not_waits h⟩]
omit hi hf in
theorem full_at {j : Nat} (hj : j < 128) {l : List No} (hl : l.length = 128) (h : ∀ i : Nat, i < 128 → (rd_T45 l i).f0 = (i : Int) + 1) : place (isId ((j : Int) + 1)) l = j :=
  place_step (by omega) (fun i hij => by unfold isId; rw [h i (by omega)]; simp; omega) (by unfold isId; rw [h j hj]; simp)
omit hi in
theorem full_try {j : Nat} (hj : j < 128) : tryS (128, fullL n now 128) ((j : Int) + 1) now = ((128, (fullL n now 128).set j (tried now (asNew n ((j : Int) + 1) now))), (tried now (asNew n ((j : Int) + 1) now), 0)) := by
  have hp := full_at hj (fullL_len n now 128) (fun i hi => by rw [fullL_rd hi]; rfl)
  have hfit := of_decide_eq_true hf
  have hnr : ¬ (waitsB (asNew n ((j : Int) + 1) now) = false ∨ (asNew n ((j : Int) + 1) now).f6 ≤ (asNew n ((j : Int) + 1) now).f5) := by
    rintro (h | h)
    · cases h
    · have h2 : n.f6 ≤ 0 := h
      omega
  unfold tryS
  simp only
  rw [hp, if_pos (by rw [fullL_len]; exact hj), fullL_rd hj, if_neg hnr, if_neg (fun h => by have : now < now := h; omega)]
omit hi hf in
theorem full_ack {j : Nat} (hj : j < 128) {t : No} (ht : t = tried now (asNew n ((j : Int) + 1) now)) : ackS (128, (fullL n now 128).set j t) ((j : Int) + 1) = ((128, ((fullL n now 128).set j t).set j (acked t)), (acked t, 0)) := by
  have hjl : j < (fullL n now 128).length := by rw [fullL_len]; exact hj
  have hp := full_at hj (l := (fullL n now 128).set j t) (by rw [List.length_set, fullL_len]) (fun i hi => by
    rw [rd_set hjl]
    split
    · rename_i e; subst e; rw [ht]; rfl
    · rw [fullL_rd hi]; rfl)
  unfold ackS
  simp only
  rw [hp, if_pos (by rw [List.length_set]; exact hjl), rd_set hjl, if_pos rfl, if_neg (by
    rintro (h | h)
    · rw [ht] at h; cases h
    · rw [ht] at h
      have : (0 : Int) + 1 = 0 := h
      omega)]
/-- The notices behind the one that made room. -/
def fullM (n : No) (now : Int) (j : Nat) : List No := (fullL n now 128).eraseIdx j ++ [asNew n 129 now]
omit hi hf in
theorem fullM_mem {j : Nat} {x : No} (h : x ∈ fullM n now j) : waitsB x = true ∧ (j < 128 → x.f0 ≠ (j : Int) + 1) := by
  rcases List.mem_append.1 h with h | h
  · obtain ⟨i, hi, hne, rfl⟩ := List.mem_eraseIdx_iff_getElem.1 h
    rw [fullL_len] at hi
    have h1 : (fullL n now 128)[i]'(by rw [fullL_len]; exact hi) = asNew n ((i : Int) + 1) now := by rw [← rd_get, fullL_rd hi]
    rw [h1]
    exact ⟨rfl, fun _ e => hne (by have : (i : Int) + 1 = (j : Int) + 1 := e; omega)⟩
  · rw [List.mem_singleton.1 h]
    exact ⟨rfl, fun hj e => by have : (129 : Int) = (j : Int) + 1 := e; omega⟩
omit hi hf in
theorem fullM_len {j : Nat} (hj : j < 128) : (fullM n now j).length = 128 := by
  unfold fullM
  rw [List.length_append, List.length_eraseIdx_of_lt (by rw [fullL_len]; exact hj), fullL_len]
  rfl
theorem full_room {j : Nat} (hj : j < 128) {t : No} (ht : t = tried now (asNew n ((j : Int) + 1) now)) : putS (128, ((fullL n now 128).set j t).set j (acked t)) n now = ((129, fullM n now j), (129, 0)) := by
  have hjl : j < (fullL n now 128).length := by rw [fullL_len]; exact hj
  have hp : place (fun n => !waitsB n) (((fullL n now 128).set j t).set j (acked t)) = j := by
    refine place_step (by rw [List.length_set, List.length_set]; exact hjl) (fun i hij => ?_) ?_
    · rw [rd_set (by rw [List.length_set]; exact hjl), if_neg (by omega), rd_set hjl, if_neg (by omega), fullL_rd (by omega)]; rfl
    · rw [rd_set (by rw [List.length_set]; exact hjl), if_pos rfl]; rfl
  unfold putS
  rw [if_neg (no_refusal hi hf), if_neg (by simp only; omega), if_neg (by simp only; rw [hp, List.length_set, List.length_set, fullL_len]; omega)]
  unfold roomed
  simp only
  rw [if_neg (by rw [List.length_set, List.length_set, fullL_len]; omega), hp]
  have : (((fullL n now 128).set j t).set j (acked t)).eraseIdx j = (fullL n now 128).eraseIdx j := by
    rw [List.set_set, List.eraseIdx_set_eq]
  rw [this]
  rfl
omit hi hf in
theorem full_get {j : Nat} (hj : j < 128) : getS (129, fullM n now j) ((j : Int) + 1) = (z45, false) := by
  unfold getS
  rw [if_neg]
  simp only
  rw [place_all (fun x hx => by unfold isId; exact beq_eq_false_iff_ne.2 ((fullM_mem hx).2 hj))]
  omega
omit hi hf in
theorem full_count {j : Nat} (hj : j < 128) : countW (129, fullM n now j) = 128 := by
  unfold countW
  simp only
  rw [List.countP_eq_length.2 (fun x hx => (fullM_mem hx).1), fullM_len hj]
end
end Go.Proofs.Ytabdjehnglmlpaa
