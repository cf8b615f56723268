/- What the reference's bytes are: plain laws of the printed functions. -/
import Derived.Test.YtabdjehnglmlpaaNn
import Derived.Test.YtabdjehnglmlpaaQq
namespace Go.Proofs.Ytabdjehnglmlpaa
open Go.RowKit Go.Proofs.YtabdjehnglmlpaaW.PrintWords
set_option linter.unusedVariables false
set_option linter.unusedSimpArgs false

theorem u64_id {x : Int} (h0 : 0 ≤ x) (h1 : x ≤ 18446744073709551615) : IntKind.u64.wrap x = x := IntWalk.u64_in x ⟨h0, h1⟩

theorem Num_loop (d : Nat) : ∀ (x : Int) (x3 : List Int) (k : Nat), (digs x).length = d → 0 ≤ x → x ≤ 18446744073709551615 → d + x3.length ≤ 8 → d < k →
    PM.curfewref01_Num.l0 k x x3 = some ((((digs x ++ x3).length : Nat) : Int) :: (digs x ++ x3)) := by
  induction d with
  | zero =>
    intro x x3 k hd h0 h1 hl hk
    have hx : ¬ x > 0 := fun hx => by have := (digs_head hx h1).1; omega
    obtain ⟨k, rfl⟩ : ∃ j, k = j + 1 := ⟨k - 1, by omega⟩
    rw [digs_zero (by omega)]
    simp only [PM.curfewref01_Num.l0, if_neg hx, Option.bind_some, List.nil_append, List.length_singleton]
    rw [if_pos (by omega)]
    have e : ((x3.length : Nat) : Int) % 256 = x3.length := by omega
    rw [e]; rfl
  | succ d ih =>
    intro x x3 k hd h0 h1 hl hk
    have hx : x > 0 := by
      rcases Int.lt_or_le 0 x with h | h
      · exact h
      · rw [digs_zero h] at hd; cases hd
    obtain ⟨k, rfl⟩ : ∃ j, k = j + 1 := ⟨k - 1, by omega⟩
    have hs := digs_step hx h1
    have hq0 : 0 ≤ x / 256 := by omega
    have hq1 : x / 256 ≤ 18446744073709551615 := by omega
    have hdl : (digs (x / 256)).length = d := by rw [hs] at hd; simp at hd; exact hd
    have := ih (x / 256) ((x % 256) :: x3) k hdl hq0 hq1 (by simp only [List.length_cons]; omega) (by omega)
    simp only [PM.curfewref01_Num.l0, if_pos hx, Option.bind_some, List.length_singleton]
    rw [if_pos (by omega), Int.tmod_eq_emod_of_nonneg h0, Int.tdiv_eq_ediv_of_nonneg h0, u64_id hq0 hq1, show x % 256 % 256 = x % 256 by omega, List.singleton_append, this, hs]
    simp

theorem RefNum_f {n : Int} (h0 : 0 ≤ n) (h1 : n ≤ 18446744073709551615) (k : Nat) (hk : 8 < k) : PM.curfewref01_Num.f k n = some (encN n 0) := by
  unfold PM.curfewref01_Num.f
  have := digs_len n
  rw [Num_loop _ n [] k rfl h0 h1 (by simpa using this) (by omega)]
  simp [encN]

theorem RefInt_f {n : Int} (h0 : -9223372036854775808 ≤ n) (h1 : n ≤ 9223372036854775807) (k : Nat) (hk : 8 < k) : PM.curfewref01_Int.f k n = some (encI n) := by
  unfold PM.curfewref01_Int.f encI
  by_cases h : n ≥ 0
  · rw [if_pos h, if_neg (by omega), u64_id (by omega) (by omega), RefNum_f h (by omega) k hk]; rfl
  · have e : wrap64 (-1 - n) = -1 - n := by unfold wrap64; omega
    rw [if_neg h, if_pos (by omega), e, u64_id (by omega) (by omega), RefNum_f (by omega) (by omega) k hk]
    have hl := digs_len (-1 - n)
    simp only [Option.bind_some, encN]
    rw [if_pos (by simp)]
    have e2 : (rd ((0 + ((digs (-1 - n)).length : Int)) :: digs (-1 - n)) 0 + 128) % 256 = 128 + (digs (-1 - n)).length := by
      show (0 + ((digs (-1 - n)).length : Int) + 128) % 256 = _
      omega
    rw [e2]; rfl

theorem RefFlag_f (b : Bool) (k : Nat) (hk : 8 < k) : PM.curfewref01_Flag.f k b = some (encF b) := by
  unfold PM.curfewref01_Flag.f encF
  cases b
  · simp only [Bool.false_eq_true, if_false]; rw [RefNum_f (by decide) (by decide) k hk]; rfl
  · simp only [if_true]; rw [RefNum_f (by decide) (by decide) k hk]; rfl

theorem RefText_f (s : ByteArray) (hs : s.size ≤ 1000) (k : Nat) (hk : 8 < k) : PM.curfewref01_Text.f k s = some (encN s.size 0 ++ bytesOf s) := by
  unfold PM.curfewref01_Text.f
  have h1 := encN_len (s.size : Int) 0
  rw [u64_id (by omega) (by omega), RefNum_f (by omega) (by omega) k hk, Option.bind_some, if_pos (by omega)]

section
variable {w : World}
theorem RefNum_calls {n : Int} (h0 : 0 ≤ n) (h1 : n ≤ 18446744073709551615) :
    Calls Try.prog 78 #[.int .u64 n] w fun e w' => ∃ v, e = .returned v ∧ Kd.R (Kd.int .u8) 5 w' w.heap.size (fun _ => True) v (encN n 0) ∧ Below w.heap.size w w' :=
  PM.curfewref01_Num.calls 100 n _ w (RefNum_f h0 h1 100 (by decide))
theorem RefInt_calls {n : Int} (h0 : -9223372036854775808 ≤ n) (h1 : n ≤ 9223372036854775807) :
    Calls Try.prog 79 #[.int .i64 n] w fun e w' => ∃ v, e = .returned v ∧ Kd.R (Kd.int .u8) 5 w' w.heap.size (fun _ => True) v (encI n) ∧ Below w.heap.size w w' :=
  PM.curfewref01_Int.calls 100 n _ w (RefInt_f h0 h1 100 (by decide))
theorem RefFlag_calls {b : Bool} :
    Calls Try.prog 136 #[.bool b] w fun e w' => ∃ v, e = .returned v ∧ Kd.R (Kd.int .u8) 5 w' w.heap.size (fun _ => True) v (encF b) ∧ Below w.heap.size w w' :=
  PM.curfewref01_Flag.calls 100 b _ w (RefFlag_f b 100 (by decide))
theorem RefText_calls {s : ByteArray} (hs : s.size ≤ 1000) :
    Calls Try.prog 138 #[.string s] w fun e w' => ∃ v, e = .returned v ∧ Kd.R (Kd.int .u8) 5 w' w.heap.size (fun _ => True) v (encN s.size 0 ++ bytesOf s) ∧ Below w.heap.size w w' :=
  PM.curfewref01_Text.calls 100 s _ w (RefText_f s hs 100 (by decide))
end

end Go.Proofs.Ytabdjehnglmlpaa
