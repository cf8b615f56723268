/- Plain laws on numbers and their bytes. -/
import Derived.WalkKit
import Derived.Test.YtabdjehnglmlpaaWWords
namespace Go.Proofs.Ytabdjehnglmlpaa
open Go.RowKit Go.Proofs.YtabdjehnglmlpaaW.PrintWords
set_option linter.unusedVariables false

def Byt (xs : List Int) : Prop := ∀ x ∈ xs, 0 ≤ x ∧ x ≤ 255
theorem Byt.nil : Byt [] := fun _ h => by cases h
theorem Byt.cons {c : Int} {r : List Int} (h0 : 0 ≤ c) (h1 : c ≤ 255) (h : Byt r) : Byt (c :: r) := fun x hx => by
  rcases List.mem_cons.1 hx with rfl | hx
  · exact ⟨h0, h1⟩
  · exact h x hx
theorem Byt.head {c : Int} {r : List Int} (h : Byt (c :: r)) : 0 ≤ c ∧ c ≤ 255 := h c List.mem_cons_self
theorem Byt.tail {c : Int} {r : List Int} (h : Byt (c :: r)) : Byt r := fun x hx => h x (List.mem_cons_of_mem _ hx)
theorem Byt.take {r : List Int} (h : Byt r) (n : Nat) : Byt (r.take n) := fun x hx => h x (List.mem_of_mem_take hx)
theorem Byt.drop {r : List Int} (h : Byt r) (n : Nat) : Byt (r.drop n) := fun x hx => h x (List.mem_of_mem_drop hx)
theorem Byt.append {a b : List Int} (ha : Byt a) (hb : Byt b) : Byt (a ++ b) := fun x hx => by
  rcases List.mem_append.1 hx with hx | hx
  · exact ha x hx
  · exact hb x hx
theorem Byt.rd {r : List Int} (h : Byt r) (i : Int) : 0 ≤ rd r i ∧ rd r i ≤ 255 := by
  unfold YtabdjehnglmlpaaW.PrintWords.rd
  rw [List.getD_eq_getElem?_getD]
  cases hx : r[i.toNat]? with
  | none => simp
  | some x => exact h x (List.mem_of_getElem? hx)

def be (l : List Int) : Int := l.foldl (fun n c => n * 256 + c) 0
theorem be_nil : be [] = 0 := rfl
theorem be_snoc (l : List Int) (c : Int) : be (l ++ [c]) = be l * 256 + c := by
  unfold be; rw [List.foldl_append]; rfl
theorem take_rd (l : List Int) (k : Nat) (h : k < l.length) : l.take (k + 1) = l.take k ++ [rd l k] := by
  rw [List.take_succ_eq_append_getElem h]
  simp [YtabdjehnglmlpaaW.PrintWords.rd, h]
theorem be_take_succ (l : List Int) (k : Nat) (h : k < l.length) : be (l.take (k + 1)) = be (l.take k) * 256 + rd l k := by
  rw [take_rd l k h, be_snoc]
theorem be_bound (k : Nat) : ∀ (l : List Int), l.length = k → Byt l → 0 ≤ be l ∧ be l < 256 ^ k := by
  induction k with
  | zero => intro l h _; rw [List.eq_nil_of_length_eq_zero h]; decide
  | succ k ih =>
    intro l h hb
    have h1 : l = l.take k ++ [rd l k] := by rw [← take_rd l k (by omega), List.take_of_length_le (by omega)]
    have h2 := ih (l.take k) (by rw [List.length_take]; omega) (hb.take k)
    have h3 := hb.rd k
    rw [h1, be_snoc, Int.pow_succ]
    omega
theorem be_range {l : List Int} (hb : Byt l) : 0 ≤ be l ∧ be l < 256 ^ l.length := be_bound _ l rfl hb
theorem pow256_pos (k : Nat) : (0 : Int) < 256 ^ k := by
  induction k with
  | zero => decide
  | succ k ih => rw [Int.pow_succ]; omega
theorem pow256_le {k m : Nat} (h : k ≤ m) : (256 : Int) ^ k ≤ 256 ^ m := by
  obtain ⟨d, rfl⟩ := Nat.exists_eq_add_of_le h
  clear h
  induction d with
  | zero => exact Int.le_refl _
  | succ d ih =>
    have := pow256_pos (k + d)
    rw [show k + (d + 1) = (k + d) + 1 by omega, Int.pow_succ]
    omega
/-- A number of at most 7 bytes, shifted, stays a u64. -/
theorem be_small {l : List Int} (hb : Byt l) (h : l.length ≤ 7) : 0 ≤ be l ∧ be l ≤ 72057594037927935 := by
  have h1 := be_range hb
  have h2 : (256 : Int) ^ l.length ≤ 256 ^ 7 := pow256_le h
  have h3 : (256 : Int) ^ 7 = 72057594037927936 := by decide
  omega
theorem be_u64 {l : List Int} (hb : Byt l) (h : l.length ≤ 8) : 0 ≤ be l ∧ be l ≤ 18446744073709551615 := by
  have h1 := be_range hb
  have h2 : (256 : Int) ^ l.length ≤ 256 ^ 8 := pow256_le h
  have h3 : (256 : Int) ^ 8 = 18446744073709551616 := by decide
  omega
theorem or_256 (B C : Int) (h0 : 0 ≤ B) (h1 : B ≤ 72057594037927935) (h2 : 0 ≤ C) (h3 : C ≤ 255) : bits .or .u64 (B * 256) C = B * 256 + C := by
  rw [u64_or _ _ (by omega) (by omega) h2 (by omega)]
  have e : (B * 256).toNat ||| C.toNat = B.toNat * 256 + C.toNat := by
    have h4 : C.toNat < 2 ^ 8 := by omega
    have h5 := Nat.shiftLeft_add_eq_or_of_lt h4 B.toNat
    rw [Nat.shiftLeft_eq] at h5
    rw [show (B * 256).toNat = B.toNat * 2 ^ 8 by omega]
    exact h5.symm
  rw [e]
  omega

/-- What a reader's number is: the number, its mark, what is left; none: it is bad now. -/
def numRead (xs : List Int) (most : Int) (marked : Bool) : Option (Int × Bool × List Int) :=
  match xs with
  | [] => none
  | c :: r =>
    let sz := if marked then c % 128 else c
    if sz > 8 ∨ sz > r.length ∨ (sz > 0 ∧ rd r 0 = 0) then none
    else if be (r.take sz.toNat) > most then none
    else some (be (r.take sz.toNat), marked && decide (c ≥ 128), r.drop sz.toNat)

/-- A reader: what it has left; is it bad? -/
abbrev Rs := List Int × Bool
def rFail : Rs := ([], true)
def rNum (s : Rs) (most : Int) : Int × Rs := match numRead s.1 most false with
  | none => (0, rFail)
  | some (n, _, r) => (n, (r, s.2))
def rInt (s : Rs) : Int × Rs := match numRead s.1 9223372036854775807 true with
  | none => (0, rFail)
  | some (n, m, r) => (if m then -1 - n else n, (r, s.2))
def rFlag (s : Rs) : Bool × Rs := ((rNum s 1).1 == 1, (rNum s 1).2)
def rRaw (s : Rs) (n : Int) : List Int × Rs := if n < 0 ∨ n > s.1.length then ([], rFail) else (s.1.take n.toNat, (s.1.drop n.toNat, s.2))
def rText (s : Rs) (most : Int) : List Int × Rs :=
  if most < 0 then ([], rFail)
  else if (rNum s most).1 > (rNum s most).2.1.length then ([], rFail)
  else rRaw (rNum s most).2 (rNum s most).1
def rEnd (s : Rs) : Int := if s.2 || !s.1.isEmpty then 20 else 0

theorem numRead_props {xs : List Int} {most : Int} {marked : Bool} {n : Int} {m : Bool} {r : List Int} (hb : Byt xs) (h : numRead xs most marked = some (n, m, r)) :
    0 ≤ n ∧ n ≤ most ∧ n ≤ 18446744073709551615 ∧ Byt r ∧ r.length < xs.length := by
  unfold numRead at h
  rcases xs with _ | ⟨c, t⟩
  · cases h
  · simp only at h
    generalize hs : (if marked then c % 128 else c) = sz at h
    split at h
    · cases h
    · rename_i h1
      split at h
      · cases h
      · rename_i h2
        injection h with h
        injection h with h3 h4
        injection h4 with h5 h6
        subst h3; subst h6
        have h7 : (t.take sz.toNat).length ≤ 8 := by rw [List.length_take]; omega
        have h8 := be_u64 (hb.tail.take sz.toNat) h7
        exact ⟨h8.1, by omega, h8.2, hb.tail.drop _, by simp only [List.length_drop, List.length_cons]; omega⟩
theorem rNum_byt {s : Rs} (hb : Byt s.1) (most : Int) : Byt (rNum s most).2.1 := by
  unfold rNum
  split
  · exact Byt.nil
  · rename_i h; exact (numRead_props hb h).2.2.2.1
theorem rNum_range {s : Rs} (hb : Byt s.1) {most : Int} (hm : 0 ≤ most) : 0 ≤ (rNum s most).1 ∧ (rNum s most).1 ≤ most ∧ (rNum s most).1 ≤ 18446744073709551615 := by
  unfold rNum
  split
  · simp only; omega
  · rename_i h
    have := numRead_props hb h
    exact ⟨this.1, this.2.1, this.2.2.1⟩
theorem rNum_len (s : Rs) (hb : Byt s.1) (most : Int) : (rNum s most).2.1.length ≤ s.1.length := by
  unfold rNum
  split
  · simp [rFail]
  · rename_i h
    have := (numRead_props hb h).2.2.2.2
    simp only; omega
theorem rInt_byt {s : Rs} (hb : Byt s.1) : Byt (rInt s).2.1 := by
  unfold rInt
  split
  · exact Byt.nil
  · rename_i h; exact (numRead_props hb h).2.2.2.1
theorem rInt_len (s : Rs) (hb : Byt s.1) : (rInt s).2.1.length ≤ s.1.length := by
  unfold rInt
  split
  · simp [rFail]
  · rename_i h
    have := (numRead_props hb h).2.2.2.2
    simp only; omega
theorem rInt_range {s : Rs} (hb : Byt s.1) : -9223372036854775808 ≤ (rInt s).1 ∧ (rInt s).1 ≤ 9223372036854775807 := by
  unfold rInt
  split
  · simp
  · rename_i h
    have := numRead_props hb h
    simp only
    split <;> omega
theorem rRaw_byt {s : Rs} (hb : Byt s.1) (n : Int) : Byt (rRaw s n).1 ∧ Byt (rRaw s n).2.1 := by
  unfold rRaw
  split
  · exact ⟨Byt.nil, Byt.nil⟩
  · exact ⟨hb.take _, hb.drop _⟩
theorem rRaw_len (s : Rs) (n : Int) : (rRaw s n).2.1.length ≤ s.1.length ∧ (rRaw s n).1.length ≤ s.1.length := by
  unfold rRaw
  split
  · simp [rFail]
  · simp only [List.length_drop, List.length_take]; omega
theorem rText_byt {s : Rs} (hb : Byt s.1) (n : Int) : Byt (rText s n).1 ∧ Byt (rText s n).2.1 := by
  unfold rText
  split
  · exact ⟨Byt.nil, Byt.nil⟩
  · split
    · exact ⟨Byt.nil, Byt.nil⟩
    · exact rRaw_byt (rNum_byt hb _) _
theorem rText_len (s : Rs) (hb : Byt s.1) (n : Int) : (rText s n).2.1.length ≤ s.1.length := by
  unfold rText
  split
  · simp [rFail]
  · split
    · simp [rFail]
    · have := (rRaw_len (rNum s n).2 (rNum s n).1).1
      have := rNum_len s hb n
      omega

/-- A number's digits to the base 256, the greatest first; of a number below 256 ^ k. -/
def digsF : Nat → Int → List Int
  | 0, _ => []
  | k + 1, n => if n ≤ 0 then [] else digsF k (n / 256) ++ [n % 256]
def digs (n : Int) : List Int := digsF 8 n
theorem digsF_more (k : Nat) : ∀ n : Int, n < 256 ^ k → digsF (k + 1) n = digsF k n := by
  induction k with
  | zero => intro n h; simp only [digsF]; rw [if_pos (by simpa using Int.lt_add_one_iff.1 (by simpa using h))]
  | succ k ih =>
    intro n h
    rw [digsF]
    conv => rhs; rw [digsF]
    by_cases hn : n ≤ 0
    · rw [if_pos hn, if_pos hn]
    · rw [if_neg hn, if_neg hn, ih (n / 256) (by rw [Int.pow_succ] at h; omega)]
theorem digs_zero {n : Int} (h : n ≤ 0) : digs n = [] := by unfold digs; rw [digsF, if_pos h]
theorem digs_step {n : Int} (h0 : 0 < n) (h1 : n ≤ 18446744073709551615) : digs n = digs (n / 256) ++ [n % 256] := by
  have h3 : (256 : Int) ^ 7 = 72057594037927936 := by decide
  unfold digs
  rw [digsF, if_neg (by omega), digsF_more 7 (n / 256) (by omega)]
theorem digsF_len (k : Nat) : ∀ n : Int, (digsF k n).length ≤ k := by
  induction k with
  | zero => intro n; simp [digsF]
  | succ k ih =>
    intro n
    rw [digsF]
    split
    · simp
    · have := ih (n / 256); simp only [List.length_append, List.length_singleton]; omega
theorem digs_len (n : Int) : (digs n).length ≤ 8 := digsF_len 8 n
theorem digsF_byt (k : Nat) : ∀ n : Int, Byt (digsF k n) := by
  induction k with
  | zero => intro n; exact Byt.nil
  | succ k ih =>
    intro n
    rw [digsF]
    split
    · exact Byt.nil
    · exact (ih _).append (Byt.cons (by omega) (by omega) Byt.nil)
theorem digs_byt (n : Int) : Byt (digs n) := digsF_byt 8 n
theorem digsF_be (k : Nat) : ∀ n : Int, 0 ≤ n → n < 256 ^ k → be (digsF k n) = n := by
  induction k with
  | zero => intro n h0 h1; have : n = 0 := by simpa using (show n = 0 by have : (256 : Int) ^ 0 = 1 := rfl; omega)
            subst this; rfl
  | succ k ih =>
    intro n h0 h1
    rw [digsF]
    split
    · have : n = 0 := by omega
      subst this; rfl
    · rw [be_snoc, ih (n / 256) (by omega) (by rw [Int.pow_succ] at h1; omega)]
      omega
theorem digs_be {n : Int} (h0 : 0 ≤ n) (h1 : n ≤ 18446744073709551615) : be (digs n) = n := by
  have h3 : (256 : Int) ^ 8 = 18446744073709551616 := by decide
  exact digsF_be 8 n h0 (by omega)
/-- The first digit of a number that is not 0 is not 0. -/
theorem digsF_head (k : Nat) : ∀ n : Int, 0 < n → n < 256 ^ k → 0 < (digsF k n).length ∧ rd (digsF k n) 0 ≠ 0 := by
  induction k with
  | zero => intro n h0 h1; have : (256 : Int) ^ 0 = 1 := rfl; omega
  | succ k ih =>
    intro n h0 h1
    rw [digsF, if_neg (by omega)]
    refine ⟨by simp, ?_⟩
    by_cases h : 0 < n / 256
    · have h2 := ih (n / 256) h (by rw [Int.pow_succ] at h1; omega)
      have : rd (digsF k (n / 256) ++ [n % 256]) 0 = rd (digsF k (n / 256)) 0 := by
        simp only [rd, show (0 : Int).toNat = 0 from rfl]
        rw [List.getD_eq_getElem?_getD, List.getD_eq_getElem?_getD, List.getElem?_append_left h2.1]
      rw [this]; exact h2.2
    · have : digsF k (n / 256) = [] := by cases k <;> simp [digsF]; omega
      rw [this]
      simp [rd]
      omega
theorem digs_head {n : Int} (h0 : 0 < n) (h1 : n ≤ 18446744073709551615) : 0 < (digs n).length ∧ rd (digs n) 0 ≠ 0 := by
  have h3 : (256 : Int) ^ 8 = 18446744073709551616 := by decide
  exact digsF_head 8 n h0 (by omega)
/-- Digit i, counted from the front. -/
theorem digsF_get (k : Nat) : ∀ (n : Int) (i : Nat), 0 ≤ n → n < 256 ^ k → i < (digsF k n).length → rd (digsF k n) i = n / 256 ^ ((digsF k n).length - 1 - i) % 256 := by
  induction k with
  | zero => intro n i _ _ h; simp [digsF] at h
  | succ k ih =>
    intro n i h0 h1 hi
    rw [digsF] at hi ⊢
    by_cases hn : n ≤ 0
    · rw [if_pos hn] at hi; simp at hi
    · rw [if_neg hn] at hi ⊢
      simp only [List.length_append, List.length_singleton] at hi ⊢
      by_cases hlt : i < (digsF k (n / 256)).length
      · have h2 := ih (n / 256) i (by omega) (by rw [Int.pow_succ] at h1; omega) hlt
        have e : rd (digsF k (n / 256) ++ [n % 256]) i = rd (digsF k (n / 256)) i := by
          simp only [rd, Int.toNat_natCast]
          rw [List.getD_eq_getElem?_getD, List.getD_eq_getElem?_getD, List.getElem?_append_left hlt]
        rw [e, h2, Int.ediv_ediv_of_nonneg (by decide)]
        congr 2
        rw [show (digsF k (n / 256)).length + 1 - 1 - i = ((digsF k (n / 256)).length - 1 - i) + 1 by omega, Int.pow_succ, Int.mul_comm]
      · have hi2 : i = (digsF k (n / 256)).length := by omega
        subst hi2
        rw [show (digsF k (n / 256)).length + 1 - 1 - (digsF k (n / 256)).length = 0 by omega]
        simp [rd]
theorem digs_get {n : Int} (h0 : 0 ≤ n) (h1 : n ≤ 18446744073709551615) {i : Nat} (hi : i < (digs n).length) : rd (digs n) i = n / 256 ^ ((digs n).length - 1 - i) % 256 := by
  have h3 : (256 : Int) ^ 8 = 18446744073709551616 := by decide
  exact digsF_get 8 n i h0 (by omega) hi
/-- A number's bytes, with a mark. -/
def encN (n mark : Int) : List Int := (mark + (digs n).length) :: digs n
def encI (n : Int) : List Int := if n < 0 then encN (-1 - n) 128 else encN n 0
def encF (b : Bool) : List Int := encN (if b then 1 else 0) 0
theorem encN_len (n mark : Int) : (encN n mark).length ≤ 9 := by have := digs_len n; simp only [encN, List.length_cons]; omega
theorem encN_byt {n mark : Int} (h0 : 0 ≤ mark) (h1 : mark ≤ 128) : Byt (encN n mark) := by
  have := digs_len n
  exact Byt.cons (by omega) (by omega) (digs_byt n)
theorem encI_byt (n : Int) : Byt (encI n) := by unfold encI; split <;> exact encN_byt (by decide) (by decide)
theorem encI_len (n : Int) : (encI n).length ≤ 9 := by unfold encI; split <;> exact encN_len _ _
theorem encF_byt (b : Bool) : Byt (encF b) := encN_byt (by decide) (by decide)
end Go.Proofs.Ytabdjehnglmlpaa
