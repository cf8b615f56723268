/- What is written is read as it was. -/
import Derived.Test.YtabdjehnglmlpaaQq
namespace Go.Proofs.Ytabdjehnglmlpaa
open Go.RowKit Go.Proofs.YtabdjehnglmlpaaW.PrintWords
set_option linter.unusedVariables false
set_option linter.unusedSimpArgs false

theorem numRead_back {n mark most : Int} {marked : Bool} {rest : List Int} (h0 : 0 ≤ n) (h1 : n ≤ 18446744073709551615) (h2 : n ≤ most)
    (hm : mark = 0 ∨ (marked = true ∧ mark = 128)) : numRead (encN n mark ++ rest) most marked = some (n, decide (mark = 128), rest) := by
  have hl := digs_len n
  have hsz : (if marked then (mark + ((digs n).length : Int)) % 128 else mark + (digs n).length) = (digs n).length := by
    rcases hm with rfl | ⟨rfl, rfl⟩
    · cases marked <;> simp; omega
    · simp; omega
  have hcond : ¬ (((digs n).length : Int) > 8 ∨ ((digs n).length : Int) > (digs n ++ rest).length ∨ (((digs n).length : Int) > 0 ∧ rd (digs n ++ rest) 0 = 0)) := by
    rintro (h | h | ⟨h, h'⟩)
    · omega
    · rw [List.length_append] at h; omega
    · have hp : 0 < n := by
        rcases Int.lt_or_le 0 n with hp | hp
        · exact hp
        · rw [digs_zero hp] at h; simp at h
      have hh := digs_head hp h1
      have hr := rd_append_left (digs n) rest 0 hh.1
      exact hh.2 (hr.symm.trans h')
  have htk : (digs n ++ rest).take (digs n).length = digs n := List.take_left' rfl
  have hdr : (digs n ++ rest).drop (digs n).length = rest := List.drop_left' rfl
  unfold numRead encN
  simp only [List.cons_append, hsz]
  rw [if_neg hcond, Int.toNat_natCast, htk, hdr, digs_be h0 h1, if_neg (by omega)]
  congr 2
  congr 1
  rcases hm with rfl | ⟨rfl, rfl⟩
  · cases marked
    · rfl
    · simp; omega
  · simp; omega

theorem rNum_back {n most : Int} {rest : List Int} {bad : Bool} (h0 : 0 ≤ n) (h1 : n ≤ 18446744073709551615) (h2 : n ≤ most) : rNum (encN n 0 ++ rest, bad) most = (n, (rest, bad)) := by
  unfold rNum
  rw [show (encN n 0 ++ rest, bad).1 = encN n 0 ++ rest from rfl, numRead_back h0 h1 h2 (.inl rfl)]
theorem rInt_back {n : Int} {rest : List Int} {bad : Bool} (h0 : -9223372036854775808 ≤ n) (h1 : n ≤ 9223372036854775807) : rInt (encI n ++ rest, bad) = (n, (rest, bad)) := by
  unfold rInt encI
  by_cases hn : n < 0
  · rw [if_pos hn, show (encN (-1 - n) 128 ++ rest, bad).1 = encN (-1 - n) 128 ++ rest from rfl, numRead_back (by omega) (by omega) (by omega) (.inr ⟨rfl, rfl⟩)]
    simp; omega
  · rw [if_neg hn, show (encN n 0 ++ rest, bad).1 = encN n 0 ++ rest from rfl, numRead_back (by omega) (by omega) (by omega) (.inl rfl)]
    simp
theorem rFlag_back {b : Bool} {rest : List Int} {bad : Bool} : rFlag (encF b ++ rest, bad) = (b, (rest, bad)) := by
  unfold rFlag encF
  rw [rNum_back (by split <;> decide) (by split <;> decide) (by split <;> decide)]
  cases b <;> rfl
theorem rRaw_back {s rest : List Int} {bad : Bool} : rRaw (s ++ rest, bad) s.length = (s, (rest, bad)) := by
  unfold rRaw
  rw [if_neg (by simp only [List.length_append]; omega), Int.toNat_natCast]
  simp
theorem rText_back {s rest : List Int} {most : Int} {bad : Bool} (h : (s.length : Int) ≤ most) (h1 : s.length ≤ 1000000) : rText (encN s.length 0 ++ s ++ rest, bad) most = (s, (rest, bad)) := by
  unfold rText
  rw [List.append_assoc, rNum_back (by omega) (by omega) h, if_neg (by omega), if_neg (by simp only [List.length_append]; omega)]
  exact rRaw_back

end Go.Proofs.Ytabdjehnglmlpaa
