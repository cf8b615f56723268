/- Plain laws: what is read as a number is just what is written of it. -/
import Derived.Test.YtabdjehnglmlpaaQp
namespace Go.Proofs.Ytabdjehnglmlpaa
open Go.RowKit Go.Proofs.YtabdjehnglmlpaaW.PrintWords
set_option linter.unusedVariables false

theorem snoc_or_nil (l : List Int) : l = [] ∨ ∃ t c, l = t ++ [c] := by
  rcases List.eq_nil_or_concat l with h | ⟨t, c, h⟩
  · exact .inl h
  · exact .inr ⟨t, c, by simpa using h⟩
theorem rd_append_left (a b : List Int) (i : Nat) (h : i < a.length) : rd (a ++ b) i = rd a i := by
  simp only [rd, Int.toNat_natCast]
  rw [List.getD_eq_getElem?_getD, List.getD_eq_getElem?_getD, List.getElem?_append_left h]
/-- The digits of a number that bytes say, the first not 0, are those bytes. -/
theorem digs_be_eq (k : Nat) : ∀ l : List Int, l.length = k → k ≤ 8 → Byt l → (l = [] ∨ rd l (0 : Nat) ≠ 0) → digs (be l) = l := by
  induction k with
  | zero => intro l h _ _ _; rw [List.eq_nil_of_length_eq_zero h]; rfl
  | succ k ih =>
    intro l h hk hb hz
    rcases snoc_or_nil l with rfl | ⟨t, c, rfl⟩
    · rfl
    · have hl : t.length = k := by simpa using h
      have hc : 0 ≤ c ∧ c ≤ 255 := hb c (by simp)
      have ht : Byt t := fun x hx => hb x (by simp [hx])
      have hbe := be_range ht
      have hu := be_u64 hb (by omega)
      rcases t with _ | ⟨a, t⟩
      · have hc0 : 0 < c := by
          rcases hz with hz | hz
          · simp at hz
          · have : c ≠ 0 := by simpa [rd] using hz
            omega
        have e : be ([] ++ [c]) = c := by simp [be]
        rw [e, digs_step hc0 (by omega), show c / 256 = 0 by omega, show c % 256 = c by omega]
        rfl
      · have hz2 : rd (a :: t) (0 : Nat) ≠ 0 := by
          rcases hz with hz | hz
          · simp at hz
          · rw [rd_append_left _ _ 0 (by simp)] at hz; exact hz
        have h1 := ih (a :: t) hl (by omega) ht (.inr hz2)
        have hpos : 0 < be (a :: t) := by
          rcases Int.lt_or_le 0 (be (a :: t)) with h2 | h2
          · exact h2
          · rw [digs_zero h2] at h1; cases h1
        rw [be_snoc] at hu ⊢
        rw [digs_step (by omega) hu.2, show (be (a :: t) * 256 + c) / 256 = be (a :: t) by omega, show (be (a :: t) * 256 + c) % 256 = c by omega, h1]

/-- What is read as a number is written so. -/
theorem numRead_enc {xs : List Int} {most n : Int} {marked m : Bool} {r : List Int} (hb : Byt xs) (h : numRead xs most marked = some (n, m, r)) :
    encN n (if m then 128 else 0) ++ r = xs := by
  unfold numRead at h
  rcases xs with _ | ⟨c, t⟩
  · cases h
  · simp only at h
    have hc := hb.head
    generalize hs : (if marked then c % 128 else c) = sz at h
    split at h
    · cases h
    · rename_i h1
      split at h
      · cases h
      · injection h with h
        injection h with h3 h4
        injection h4 with h5 h6
        subst h3; subst h6
        have hsz : 0 ≤ sz := by rw [← hs]; split <;> omega
        have hl : (t.take sz.toNat).length = sz.toNat := by rw [List.length_take]; omega
        have hd : digs (be (t.take sz.toNat)) = t.take sz.toNat := by
          refine digs_be_eq _ _ hl (by omega) (hb.tail.take _) ?_
          rcases Nat.eq_zero_or_pos sz.toNat with h7 | h7
          · exact .inl (by rw [h7]; rfl)
          · refine .inr (fun h8 => h1 (.inr (.inr ⟨by omega, ?_⟩)))
            have := rd_append_left (t.take sz.toNat) (t.drop sz.toNat) 0 (by omega)
            rw [List.take_append_drop] at this
            exact this.trans h8
        rw [encN, hd, hl, List.cons_append, List.take_append_drop]
        congr 1
        rw [← h5, ← hs]
        cases marked
        · simp at hs ⊢; omega
        · simp only [if_true, Bool.true_and] at hs ⊢
          by_cases h9 : c ≥ 128
          · simp [h9]; omega
          · simp [h9]; omega
theorem rNum_enc {xs : List Int} {most : Int} (hb : Byt xs) (h : (rNum (xs, false) most).2.2 = false) : encN (rNum (xs, false) most).1 0 ++ (rNum (xs, false) most).2.1 = xs := by
  unfold rNum at h ⊢
  split
  · rename_i h1; simp only [h1] at h; cases h
  · rename_i n m r h1
    have h2 := numRead_enc hb h1
    have h3 : m = false := by
      unfold numRead at h1
      rcases xs with _ | ⟨c, t⟩
      · cases h1
      · simp only [Bool.false_eq_true, if_false] at h1
        split at h1
        · cases h1
        · split at h1
          · cases h1
          · injection h1 with h1; injection h1 with _ h1; injection h1 with h1 _; exact h1.symm
    subst h3
    exact h2
theorem rInt_enc {xs : List Int} (hb : Byt xs) (h : (rInt (xs, false)).2.2 = false) : encI (rInt (xs, false)).1 ++ (rInt (xs, false)).2.1 = xs := by
  unfold rInt at h ⊢
  split
  · rename_i h1; simp only [h1] at h; cases h
  · rename_i n m r h1
    have h2 := numRead_enc hb h1
    have h3 := (numRead_props hb h1).1
    simp only
    cases m
    · simp only [Bool.false_eq_true, if_false] at h2 ⊢
      rw [encI, if_neg (by omega)]; exact h2
    · simp only [if_true] at h2 ⊢
      rw [encI, if_pos (by omega), show -1 - (-1 - n) = n by omega]; exact h2
theorem take_of_append {a b c : List Int} (h : a ++ b = c) : c.take (c.length - b.length) = a ∧ b.length ≤ c.length := by
  subst h
  rw [List.length_append, Nat.add_sub_cancel, List.take_left]
  exact ⟨rfl, by omega⟩
end Go.Proofs.Ytabdjehnglmlpaa
