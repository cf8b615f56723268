/- Plain laws of member, on: Quorum, Near, Reached, With, Without. -/
import Derived.Test.YtabdjehnglmlpaaMq
namespace Go.Proofs.Ytabdjehnglmlpaa.PM
open Go.RowKit Go.Proofs.YtabdjehnglmlpaaW.PrintWords Go.Proofs.YtabdjehnglmlpaaW.PrintMore
set_option linter.unusedVariables false

theorem dec_congr {p q : Prop} [Decidable p] [Decidable q] (h : p ↔ q) : decide p = decide q := decide_eq_decide.2 h
def quo_ (l : List Int) : Int := if snd_ l then (l.length : Int) / 2 + 1 else 0
theorem w64 {x : Int} (h0 : -1000000 ≤ x) (h1 : x ≤ 1000000) : wrap64 x = x := by unfold wrap64; omega
theorem Quorum_f (l : List Int) (hl : l.length ≤ 1000) (k : Nat) (hk : 1000 < k) : member_Quorum.f k l = some (quo_ l) := by
  unfold member_Quorum.f quo_
  rw [Sound_f l hl k hk]
  simp only [Option.bind_some]
  rw [w64 (x := (l.length : Int) / 2) (by omega) (by omega), w64 (by omega) (by omega)]
  split <;> rfl
theorem rQuorum_f (l : List Int) (hl : l.length ≤ 1000) (k : Nat) (hk : 1001 < k) : curfewref29_Quorum.f k l = some (quo_ l) := by
  unfold curfewref29_Quorum.f quo_
  rw [rSound_f l hl k hk]
  simp only [Option.bind_some]
  rw [w64 (x := (l.length : Int) / 2) (by omega) (by omega), w64 (by omega) (by omega)]
  split <;> rfl

/-- How many stand in one alone. -/
def alone (a b : List Int) : Nat := seven.countP fun x => decide (x ∈ a) != decide (x ∈ b)
def near_ (a b : List Int) : Bool := snd_ a && (snd_ b && decide (alone a b ≤ 1))
def popN (x : Nat) : Nat := (List.range 7).countP fun i => x.testBit i
theorem popN_le : ∀ x, x < 128 → ((x &&& (if x = 0 then 18446744073709551615 else x - 1)) == 0) = decide (popN x ≤ 1) := by decide +kernel
theorem near_bits (x : Nat) (h : x < 128) : (Go.bits .and .u64 (x : Int) (IntKind.u64.wrap ((x : Int) - 1)) == 0) = decide (popN x ≤ 1) := by
  rw [← popN_le x h]
  have e : IntKind.u64.wrap ((x : Int) - 1) = (((if x = 0 then 18446744073709551615 else x - 1 : Nat)) : Int) := by
    rw [IntKind.wrap_u64]
    by_cases h0 : x = 0
    · rw [if_pos h0]; omega
    · rw [if_neg h0]; omega
  rw [e, u64_and_nat _ _ (by omega) (by split <;> omega)]
  rw [Bool.eq_iff_iff, beq_iff_eq, beq_iff_eq]
  omega
theorem xor_lt {a b : Nat} (ha : a < 128) (hb : b < 128) : a ^^^ b < 128 := Nat.xor_lt_two_pow (n := 7) ha hb
theorem pop_alone (a b : List Int) : popN (setn a ^^^ setn b) = alone a b := by
  unfold popN alone seven rng
  rw [List.countP_map]
  apply List.countP_congr
  intro i hi
  have hi7 : i < 7 := List.mem_range.1 hi
  simp only [Function.comp, Nat.testBit_xor, setn_bit a i hi7, setn_bit b i hi7]
  simp
theorem Near_f (a b : List Int) (ha : a.length ≤ 1000) (hb : b.length ≤ 1000) (k : Nat) (hk : 1000 < k) : member_Near.f k a b = some (near_ a b) := by
  unfold member_Near.f near_
  rw [set_f a ha k (by omega)]
  simp only [Option.bind_some]
  rw [set_f b hb k (by omega)]
  simp only [Option.bind_some]
  rw [Sound_f a ha k hk, Sound_f b hb k hk]
  simp only [Option.bind_some]
  rw [u64_xor_nat _ _ (by have := setn_lt a; omega) (by have := setn_lt b; omega), near_bits _ (xor_lt (setn_lt a) (setn_lt b)), pop_alone]
  cases snd_ a <;> cases snd_ b <;> rfl
theorem rNear_loop (a b : List Int) (ha : a.length ≤ 1000) (hb : b.length ≤ 1000) (d : Nat) : ∀ (k i c : Nat), i + d = 7 → c ≤ i → 1002 + d < k →
    curfewref29_Near.l0 k a b c i = some (snd_ a && (snd_ b && decide (c + (rng i d).countP (fun x => decide (x ∈ a) != decide (x ∈ b)) ≤ 1))) := by
  induction d with
  | zero =>
    intro k i c hd hc hk
    obtain ⟨k, rfl⟩ : ∃ m, k = m + 1 := ⟨k - 1, by omega⟩
    simp only [curfewref29_Near.l0]
    rw [if_neg (by omega)]
    rw [rSound_f a ha k (by omega), rSound_f b hb k (by omega), rng_zero]
    simp only [Option.bind_some, List.countP_nil, Nat.add_zero]
    have e : decide ((c : Int) ≤ 1) = decide (c ≤ 1) := dec_congr (by omega)
    rw [e]
    cases snd_ a <;> cases snd_ b <;> rfl
  | succ d ih =>
    intro k i c hd hc hk
    obtain ⟨k, rfl⟩ : ∃ m, k = m + 1 := ⟨k - 1, by omega⟩
    simp only [curfewref29_Near.l0]
    rw [if_pos (by omega), rHas_f a i ha k (by omega), rHas_f b i hb k (by omega), w1 (x := (i : Int)) (by omega) (by omega), w1 (x := (c : Int)) (by omega) (by omega), show ((i : Int) + 1) = ((i + 1 : Nat) : Int) by omega, show ((c : Int) + 1) = ((c + 1 : Nat) : Int) by omega, rng_succ]
    simp only [Option.bind_some, List.countP_cons]
    by_cases h : (decide ((i : Int) ∈ a) != decide ((i : Int) ∈ b)) = true
    · rw [if_pos h, ih k (i + 1) (c + 1) (by omega) (by omega) (by omega), if_pos h, Nat.add_assoc, Nat.add_comm 1]
    · rw [if_neg h, ih k (i + 1) c (by omega) (by omega) (by omega), if_neg h]
      rfl
theorem rNear_f (a b : List Int) (ha : a.length ≤ 1000) (hb : b.length ≤ 1000) (k : Nat) (hk : 1010 < k) : curfewref29_Near.f k a b = some (near_ a b) := by
  have := rNear_loop a b ha hb 7 k 0 0 (by omega) (by omega) (by omega)
  unfold curfewref29_Near.f near_ alone seven
  rw [Nat.zero_add] at this
  exact this

/-- How many of a list stand in a set. -/
def reach_ (l s : List Int) : Bool := snd_ l && decide (2 * (l.countP fun x => decide (x ∈ s)) > l.length)
theorem rReached_loop (l s : List Int) (hl : l.length ≤ 1000) (hs : s.length ≤ 1000) (d : Nat) : ∀ (k i c : Nat), l.length - i = d → i ≤ l.length → c ≤ i → 1002 + d < k →
    curfewref29_Reached.l0 k l s c i = some (snd_ l && decide (2 * (c + (l.drop i).countP (fun x => decide (x ∈ s))) > l.length)) := by
  induction d with
  | zero =>
    intro k i c hd hi hc hk
    obtain ⟨k, rfl⟩ : ∃ m, k = m + 1 := ⟨k - 1, by omega⟩
    simp only [curfewref29_Reached.l0]
    rw [if_neg (by omega), rSound_f l hl k (by omega), List.drop_of_length_le (by omega), w64 (by omega) (by omega)]
    simp only [Option.bind_some, List.countP_nil, Nat.add_zero]
    have e : decide (2 * (c : Int) > (l.length : Int)) = decide (2 * c > l.length) := dec_congr (by omega)
    rw [e]
    cases snd_ l <;> rfl
  | succ d ih =>
    intro k i c hd hi hc hk
    obtain ⟨k, rfl⟩ : ∃ m, k = m + 1 := ⟨k - 1, by omega⟩
    simp only [curfewref29_Reached.l0]
    rw [if_pos (by omega), if_pos (by omega), rHas_f s _ hs k (by omega), drop_rd l i (by omega), w1 (x := (i : Int)) (by omega) (by omega), w1 (x := (c : Int)) (by omega) (by omega), show ((i : Int) + 1) = ((i + 1 : Nat) : Int) by omega, show ((c : Int) + 1) = ((c + 1 : Nat) : Int) by omega]
    simp only [Option.bind_some, List.countP_cons, decide_eq_true_eq]
    by_cases h : rd l i ∈ s
    · rw [if_pos h, ih k (i + 1) (c + 1) (by omega) (by omega) (by omega) (by omega), if_pos h, Nat.add_assoc, Nat.add_comm 1]
    · rw [if_neg h, ih k (i + 1) c (by omega) (by omega) (by omega) (by omega), if_neg h]
      rfl
theorem rReached_f (l s : List Int) (hl : l.length ≤ 1000) (hs : s.length ≤ 1000) (k : Nat) (hk : 2010 < k) : curfewref29_Reached.f k l s = some (reach_ l s) := by
  have := rReached_loop l s hl hs l.length k 0 0 (by omega) (by omega) (by omega) (by omega)
  unfold curfewref29_Reached.f reach_
  rw [Nat.zero_add, List.drop_zero] at this
  exact this

/-! With, Without. -/
def rowBut (l : List Int) (less more : Int) : List Int := seven.filter fun x => decide (x = more) || (!decide (x = less) && decide (x ∈ l))
theorem Row_loop (l : List Int) (less more : Int) (hl : l.length ≤ 1000) (d : Nat) : ∀ (k i : Nat) (acc : List Int), i + d = 7 → acc.length ≤ i → 1002 + d < k →
    curfewref29_Row.l0 k l less more acc i = some (acc ++ (rng i d).filter fun x => decide (x = more) || (!decide (x = less) && decide (x ∈ l))) := by
  induction d with
  | zero =>
    intro k i acc hd ha hk
    obtain ⟨k, rfl⟩ : ∃ m, k = m + 1 := ⟨k - 1, by omega⟩
    simp only [curfewref29_Row.l0]
    rw [if_neg (by omega), rng_zero]; simp
  | succ d ih =>
    intro k i acc hd ha hk
    obtain ⟨k, rfl⟩ : ∃ m, k = m + 1 := ⟨k - 1, by omega⟩
    have h1 := ih k (i + 1) (acc ++ [(i : Int)]) (by omega) (by simp; omega) (by omega)
    have h2 := ih k (i + 1) acc (by omega) (by omega) (by omega)
    simp only [curfewref29_Row.l0]
    rw [if_pos (by omega), rng_succ, w1 (by omega) (by omega), show ((i : Int) + 1) = ((i + 1 : Nat) : Int) by omega, List.filter_cons]
    by_cases e1 : (i : Int) = more
    · rw [if_pos e1, if_pos (by omega), h1]
      simp [e1]
    · rw [if_neg e1]
      by_cases e2 : (i : Int) = less
      · rw [if_pos e2, h2]; simp [e2]; intro e3; exact absurd (e2.trans e3) e1
      · rw [if_neg e2, rHas_f l i hl k (by omega)]
        simp only [Option.bind_some, decide_eq_true_eq]
        by_cases e3 : (i : Int) ∈ l
        · rw [if_pos e3, if_pos (by omega), h1]; simp [e1, e2, e3]
        · rw [if_neg e3, h2]; simp [e1, e2, e3]
theorem Row_f (l : List Int) (less more : Int) (hl : l.length ≤ 1000) (k : Nat) (hk : 1010 < k) : curfewref29_Row.f k l less more = some (rowBut l less more) := by
  have := Row_loop l less more hl 7 k 0 [] (by omega) (by simp) (by omega)
  unfold curfewref29_Row.f rowBut
  simpa [seven] using this
def with_ (l : List Int) (n : Int) : List Int × Int :=
  if snd_ l = true ∧ 0 ≤ n ∧ n < 7 then (if n ∈ l then ([], 32) else (rowBut l (-1) n, 0)) else ([], 2)
def without_ (l : List Int) (n : Int) : List Int × Int :=
  if snd_ l = true ∧ 0 ≤ n ∧ n < 7 then (if n ∈ l then (if (l.length : Int) = 1 then ([], 33) else (rowBut l n (-1), 0)) else ([], 31)) else ([], 2)
theorem rWith_f (l : List Int) (n : Int) (hl : l.length ≤ 1000) (k : Nat) (hk : 2000 < k) : curfewref29_With.f k l n = some (with_ l n) := by
  obtain ⟨k, rfl⟩ : ∃ m, k = m + 1 := ⟨k - 1, by omega⟩
  unfold curfewref29_With.f with_
  rw [rSound_f l hl _ (by omega)]
  simp only [Option.bind_some, curfewref29_With.j0]
  rw [rHas_f l n hl k (by omega), Row_f l (-1) n hl k (by omega)]
  simp only [Option.bind_some, if_true, decide_eq_true_eq]
  by_cases h4 : n ∈ l
  all_goals
    simp only [h4, if_true, if_false]
    by_cases h1 : snd_ l = true
    · rw [if_pos h1]
      by_cases h2 : n < 0
      · rw [if_pos h2, if_neg (by omega)]
      · rw [if_neg h2]
        by_cases h3 : n > 6
        · rw [if_pos h3, if_neg (by omega)]
        · rw [if_neg h3, if_pos ⟨h1, by omega, by omega⟩]
    · rw [if_neg h1, if_neg (by simp [h1])]
theorem rWithout_f (l : List Int) (n : Int) (hl : l.length ≤ 1000) (k : Nat) (hk : 2000 < k) : curfewref29_Without.f k l n = some (without_ l n) := by
  obtain ⟨k, rfl⟩ : ∃ m, k = m + 1 := ⟨k - 1, by omega⟩
  unfold curfewref29_Without.f without_
  rw [rSound_f l hl _ (by omega)]
  simp only [Option.bind_some, curfewref29_Without.j0]
  rw [rHas_f l n hl k (by omega), Row_f l n (-1) hl k (by omega)]
  simp only [Option.bind_some, if_true, decide_eq_true_eq]
  by_cases h4 : n ∈ l <;> by_cases h5 : (l.length : Int) = 1
  all_goals
    simp only [h4, h5, if_true, if_false]
    by_cases h1 : snd_ l = true
    · rw [if_pos h1]
      by_cases h2 : n < 0
      · rw [if_pos h2, if_neg (by omega)]
      · rw [if_neg h2]
        by_cases h3 : n > 6
        · rw [if_pos h3, if_neg (by omega)]
        · rw [if_neg h3, if_pos ⟨h1, by omega, by omega⟩]
    · rw [if_neg h1, if_neg (by simp [h1])]
theorem rowBut_with (l : List Int) (n : Nat) (hn : n < 7) : seven.filter (bit ((setn l ||| 2 ^ n : Nat) : Int)) = rowBut l (-1) n := by
  unfold rowBut
  apply List.filter_congr
  intro x hx
  obtain ⟨i, rfl, hi⟩ := mem_seven hx
  rw [bit_nat, Nat.testBit_or, Nat.testBit_two_pow, setn_bit l i hi]
  have e1 : decide ((i : Int) = -1) = false := decide_eq_false (by omega)
  have e2 : decide (n = i) = decide ((i : Int) = n) := by congr 1; simp only [eq_iff_iff]; omega
  rw [e1, e2]
  cases decide ((i : Int) ∈ l) <;> cases decide ((i : Int) = n) <;> rfl
theorem With_f (l : List Int) (n : Int) (hl : l.length ≤ 1000) (k : Nat) (hk : 2000 < k) : member_With.f k l n = some (with_ l n) := by
  obtain ⟨k, rfl⟩ : ∃ m, k = m + 1 := ⟨k - 1, by omega⟩
  unfold member_With.f with_
  rw [Sound_f l hl _ (by omega), node_f]
  simp only [Option.bind_some, member_With.j0]
  rw [Has_f l n hl k (by omega), set_f l hl k (by omega)]
  simp only [Option.bind_some, if_true, decide_eq_true_eq]
  by_cases h1 : snd_ l = true
  · rw [if_pos h1]
    by_cases h2 : 0 ≤ n ∧ n < 7
    · obtain ⟨m, rfl⟩ := Int.eq_ofNat_of_zero_le h2.1
      have hm : m < 7 := by omega
      have hp : 2 ^ m < 128 := by
        have : (2 : Nat) ^ m < 2 ^ 7 := Nat.pow_lt_pow_right (by decide) hm
        simpa using this
      have hs := setn_lt l
      have hor := or_lt_128 hs hm
      have hd : decide (0 ≤ (m : Int) ∧ (m : Int) < 7) = true := decide_eq_true h2
      rw [hd, Bool.not_true, if_neg Bool.false_ne_true, if_pos (show snd_ l = true ∧ 0 ≤ (m : Int) ∧ (m : Int) < 7 from ⟨h1, h2⟩)]
      by_cases h4 : (m : Int) ∈ l
      · rw [if_pos h4, if_pos h4]
      · rw [if_neg h4, if_neg h4, if_pos h2.1, shl_one _ h2.1 (by omega), Int.toNat_natCast, u64_or_nat _ _ (by omega) (by omega), of_f _ (by omega) (by omega) k (by omega), rowBut_with l m hm]
        rfl
    · have hd : decide (0 ≤ n ∧ n < 7) = false := decide_eq_false h2
      rw [hd, Bool.not_false, if_pos rfl, if_neg (fun h => h2 h.2)]
  · rw [if_neg h1, if_neg (fun h => h1 h.1)]
theorem andNot_bits (a n : Nat) (ha : a < 128) (hn : n < 7) : Go.bits .andNot .u64 (a : Int) ((2 ^ n : Nat) : Int) = ((a &&& (127 ^^^ 2 ^ n) : Nat) : Int) := by
  have h : ∀ n : Nat, n < 7 → ∀ a : Nat, a < 128 → Go.bits .andNot .u64 (a : Int) ((2 ^ n : Nat) : Int) = ((a &&& (127 ^^^ 2 ^ n) : Nat) : Int) := by decide +kernel
  exact h n hn a ha
theorem rowBut_without (l : List Int) (n : Nat) (hn : n < 7) : seven.filter (bit ((setn l &&& (127 ^^^ 2 ^ n) : Nat) : Int)) = rowBut l n (-1) := by
  unfold rowBut
  apply List.filter_congr
  intro x hx
  obtain ⟨i, rfl, hi⟩ := mem_seven hx
  rw [bit_nat, Nat.testBit_and, Nat.testBit_xor, Nat.testBit_two_pow, setn_bit l i hi]
  have e1 : decide ((i : Int) = -1) = false := decide_eq_false (by omega)
  have e2 : decide (n = i) = decide ((i : Int) = n) := dec_congr (by omega)
  have e3 : Nat.testBit 127 i = true := by
    have : ∀ i, i < 7 → Nat.testBit 127 i = true := by decide
    exact this i hi
  rw [e1, e2, e3]
  cases decide ((i : Int) ∈ l) <;> cases decide ((i : Int) = n) <;> rfl
theorem Without_f (l : List Int) (n : Int) (hl : l.length ≤ 1000) (k : Nat) (hk : 2000 < k) : member_Without.f k l n = some (without_ l n) := by
  obtain ⟨k, rfl⟩ : ∃ m, k = m + 1 := ⟨k - 1, by omega⟩
  unfold member_Without.f without_
  rw [Sound_f l hl _ (by omega), node_f]
  simp only [Option.bind_some, member_Without.j0]
  rw [Has_f l n hl k (by omega), set_f l hl k (by omega)]
  simp only [Option.bind_some, if_true, decide_eq_true_eq]
  by_cases h1 : snd_ l = true
  · rw [if_pos h1]
    by_cases h2 : 0 ≤ n ∧ n < 7
    · obtain ⟨m, rfl⟩ := Int.eq_ofNat_of_zero_le h2.1
      have hm : m < 7 := by omega
      have hs := setn_lt l
      have hlt : setn l &&& (127 ^^^ 2 ^ m) ≤ setn l := Nat.and_le_left
      have hd : decide (0 ≤ (m : Int) ∧ (m : Int) < 7) = true := decide_eq_true h2
      rw [hd, Bool.not_true, if_neg Bool.false_ne_true, if_pos (show snd_ l = true ∧ 0 ≤ (m : Int) ∧ (m : Int) < 7 from ⟨h1, h2⟩)]
      by_cases h4 : (m : Int) ∈ l
      · rw [if_pos h4, if_pos h4]
        by_cases h5 : (l.length : Int) = 1
        · rw [if_pos h5, if_pos h5]
        · rw [if_neg h5, if_neg h5, if_pos h2.1, shl_one _ h2.1 (by omega), Int.toNat_natCast, andNot_bits _ _ hs hm, of_f _ (by omega) (by omega) k (by omega), rowBut_without l m hm]
          rfl
      · rw [if_neg h4, if_neg h4]
    · have hd : decide (0 ≤ n ∧ n < 7) = false := decide_eq_false h2
      rw [hd, Bool.not_false, if_pos rfl, if_neg (fun h => h2 h.2)]
  · rw [if_neg h1, if_neg (fun h => h1 h.1)]
end Go.Proofs.Ytabdjehnglmlpaa.PM
