/- Plain laws of member's functions and of its reference: what each comes to on lists. -/
import Derived.Test.YtabdjehnglmlpaaM3
import Derived.Test.YtabdjehnglmlpaaM4
namespace Go.Proofs.Ytabdjehnglmlpaa.PM
open Go.RowKit Go.Proofs.YtabdjehnglmlpaaW.PrintWords Go.Proofs.YtabdjehnglmlpaaW.PrintMore
set_option linter.unusedVariables false

theorem w1 {x : Int} (h0 : 0 ≤ x) (h1 : x ≤ 1000000) : wrap64 (x + 1) = x + 1 := by unfold wrap64; omega
theorem drop_rd (l : List Int) (i : Nat) (h : i < l.length) : l.drop i = rd l i :: l.drop (i + 1) := by
  rw [List.drop_eq_getElem_cons h]; simp [rd, h]

theorem Equal_loop (a b : List Int) (hab : a.length = b.length) (ha : a.length ≤ 1000) (d : Nat) : ∀ (k i : Nat), a.length - i = d → i ≤ a.length → d < k →
    slices_Equal_int_int.l0 k a b (a.length : Int) i = some (decide (a.drop i = b.drop i)) := by
  induction d with
  | zero =>
    intro k i hd hi hk
    obtain ⟨k, rfl⟩ : ∃ m, k = m + 1 := ⟨k - 1, by omega⟩
    simp only [slices_Equal_int_int.l0]
    rw [if_neg (by omega), List.drop_of_length_le (by omega), List.drop_of_length_le (by omega)]
    simp
  | succ d ih =>
    intro k i hd hi hk
    obtain ⟨k, rfl⟩ : ∃ m, k = m + 1 := ⟨k - 1, by omega⟩
    simp only [slices_Equal_int_int.l0]
    rw [if_pos (by omega), if_pos (by omega), if_pos (by omega), if_pos (by omega), drop_rd a i (by omega), drop_rd b i (by omega)]
    by_cases h : rd a i = rd b i
    · rw [if_pos h, w1 (by omega) (by omega)]
      have := ih k (i + 1) (by omega) (by omega) (by omega)
      rw [show ((i + 1 : Nat) : Int) = (i : Int) + 1 by omega] at this
      rw [this, h]
      simp
    · rw [if_neg h]; simp [h]
theorem Equal_f (a b : List Int) (ha : a.length ≤ 1000) (k : Nat) (hk : a.length < k) : slices_Equal_int_int.f k a b = some (decide (a = b)) := by
  unfold slices_Equal_int_int.f
  by_cases h : (a.length : Int) = b.length
  · rw [if_pos h]
    have := Equal_loop a b (by omega) ha a.length k 0 (by omega) (by omega) hk
    simpa using this
  · rw [if_neg h]
    have : a ≠ b := fun e => h (by rw [e])
    simp [this]
theorem Same_f (a b : List Int) (ha : a.length ≤ 1000) (k : Nat) (hk : a.length < k) : member_Same.f k a b = some (decide (a = b)) := by
  unfold member_Same.f; rw [Equal_f a b ha k hk]; rfl

theorem rSame_loop (a b : List Int) (hab : a.length = b.length) (ha : a.length ≤ 1000) (d : Nat) : ∀ (k i : Nat), a.length - i = d → i ≤ a.length → d < k →
    curfewref29_Same.l0 k a b i = some (decide (a.drop i = b.drop i)) := by
  induction d with
  | zero =>
    intro k i hd hi hk
    obtain ⟨k, rfl⟩ : ∃ m, k = m + 1 := ⟨k - 1, by omega⟩
    simp only [curfewref29_Same.l0]
    rw [if_neg (by omega), List.drop_of_length_le (by omega), List.drop_of_length_le (by omega)]
    simp
  | succ d ih =>
    intro k i hd hi hk
    obtain ⟨k, rfl⟩ : ∃ m, k = m + 1 := ⟨k - 1, by omega⟩
    simp only [curfewref29_Same.l0]
    rw [if_pos (by omega), if_pos (by omega), if_pos (by omega), drop_rd a i (by omega), drop_rd b i (by omega)]
    by_cases h : rd a i = rd b i
    · rw [if_pos h, w1 (by omega) (by omega)]
      have := ih k (i + 1) (by omega) (by omega) (by omega)
      rw [show ((i + 1 : Nat) : Int) = (i : Int) + 1 by omega] at this
      rw [this, h]
      simp
    · rw [if_neg h]; simp [h]
theorem rSame_f (a b : List Int) (ha : a.length ≤ 1000) (k : Nat) (hk : a.length < k) : curfewref29_Same.f k a b = some (decide (a = b)) := by
  unfold curfewref29_Same.f
  by_cases h : (a.length : Int) = b.length
  · rw [if_pos h]
    have := rSame_loop a b (by omega) ha a.length k 0 (by omega) (by omega) hk
    simpa using this
  · rw [if_neg h]
    have : a ≠ b := fun e => h (by rw [e])
    simp [this]

theorem Index_loop (l : List Int) (v : Int) (hl : l.length ≤ 1000) (d : Nat) : ∀ (k i : Nat), l.length - i = d → i ≤ l.length → d < k →
    ∃ r, slices_Index_int_int.l0 k l v (l.length : Int) i = some r ∧ decide (r ≥ 0) = decide (v ∈ l.drop i) := by
  induction d with
  | zero =>
    intro k i hd hi hk
    obtain ⟨k, rfl⟩ : ∃ m, k = m + 1 := ⟨k - 1, by omega⟩
    refine ⟨-1, ?_, ?_⟩
    · simp only [slices_Index_int_int.l0]; rw [if_neg (by omega)]
    · rw [List.drop_of_length_le (by omega)]; simp
  | succ d ih =>
    intro k i hd hi hk
    obtain ⟨k, rfl⟩ : ∃ m, k = m + 1 := ⟨k - 1, by omega⟩
    simp only [slices_Index_int_int.l0]
    rw [if_pos (by omega), if_pos (by omega), if_pos (by omega), drop_rd l i (by omega)]
    by_cases h : v = rd l i
    · rw [if_pos h]
      refine ⟨i, rfl, ?_⟩
      have : v ∈ rd l i :: l.drop (i + 1) := by rw [← h]; exact List.mem_cons_self
      simp only [this, decide_true, decide_eq_true_eq]; omega
    · rw [if_neg h, w1 (by omega) (by omega)]
      obtain ⟨r, h1, h2⟩ := ih k (i + 1) (by omega) (by omega) (by omega)
      rw [show ((i + 1 : Nat) : Int) = (i : Int) + 1 by omega] at h1
      refine ⟨r, h1, ?_⟩
      rw [h2]
      simp [h]
theorem Has_f (l : List Int) (v : Int) (hl : l.length ≤ 1000) (k : Nat) (hk : l.length < k) : member_Has.f k l v = some (decide (v ∈ l)) := by
  obtain ⟨r, h1, h2⟩ := Index_loop l v hl l.length k 0 (by omega) (by omega) hk
  unfold member_Has.f slices_Contains_int_int.f slices_Index_int_int.f
  rw [show ((0 : Nat) : Int) = 0 from rfl] at h1
  rw [h1]
  simp only [Option.bind_some, h2, List.drop_zero]

theorem rHas_loop (l : List Int) (v : Int) (hl : l.length ≤ 1000) (d : Nat) : ∀ (k i : Nat), l.length - i = d → i ≤ l.length → d < k →
    curfewref29_Has.l0 k l v i = some (decide (v ∈ l.drop i)) := by
  induction d with
  | zero =>
    intro k i hd hi hk
    obtain ⟨k, rfl⟩ : ∃ m, k = m + 1 := ⟨k - 1, by omega⟩
    simp only [curfewref29_Has.l0]
    rw [if_neg (by omega), List.drop_of_length_le (by omega)]; simp
  | succ d ih =>
    intro k i hd hi hk
    obtain ⟨k, rfl⟩ : ∃ m, k = m + 1 := ⟨k - 1, by omega⟩
    simp only [curfewref29_Has.l0]
    rw [if_pos (by omega), if_pos (by omega), drop_rd l i (by omega)]
    by_cases h : rd l i = v
    · rw [if_pos h]; simp [h]
    · rw [if_neg h, w1 (by omega) (by omega)]
      have := ih k (i + 1) (by omega) (by omega) (by omega)
      rw [show ((i + 1 : Nat) : Int) = (i : Int) + 1 by omega] at this
      rw [this]
      have h' : ¬ v = rd l i := fun e => h e.symm
      simp [h']
theorem rHas_f (l : List Int) (v : Int) (hl : l.length ≤ 1000) (k : Nat) (hk : l.length < k) : curfewref29_Has.f k l v = some (decide (v ∈ l)) := by
  have := rHas_loop l v hl l.length k 0 (by omega) (by omega) hk
  unfold curfewref29_Has.f
  simpa using this

/-! Bits. -/
def bit (x i : Int) : Bool := decide (x / 2 ^ i.toNat % 2 = 1)
def rng (i d : Nat) : List Int := (List.range d).map fun j => ((i + j : Nat) : Int)
theorem rng_zero (i : Nat) : rng i 0 = [] := rfl
theorem rng_succ (i d : Nat) : rng i (d + 1) = (i : Int) :: rng (i + 1) d := by
  unfold rng
  rw [List.range_succ_eq_map]
  simp only [List.map_cons, List.map_map, Nat.add_zero, List.cons.injEq, true_and]
  apply List.map_congr_left
  intro j _
  simp only [Function.comp]
  omega
def seven : List Int := rng 0 7
theorem seven_eq : seven = [0, 1, 2, 3, 4, 5, 6] := rfl

theorem bit_test (x : Int) (i : Nat) (h0 : 0 ≤ x) (h1 : x ≤ 18446744073709551615) (hi : i < 64) : (Go.bits .and .u64 (shr .u64 x i) 1 = 1) ↔ bit x i = true := by
  unfold shr bit
  rw [show min (i : Int).toNat IntKind.u64.bits = i by rw [Int.toNat_natCast]; exact Nat.min_eq_left (by show i ≤ 64; omega), Int.toNat_natCast]
  have hp : (0 : Int) < 2 ^ i := Int.pow_pos (by decide)
  have h2 : 0 ≤ x / 2 ^ i := Int.ediv_nonneg h0 (by omega)
  have h3 : x / 2 ^ i ≤ x := Int.ediv_le_self _ h0
  generalize x / 2 ^ i = y at h2 h3
  obtain ⟨m, rfl⟩ := Int.eq_ofNat_of_zero_le h2
  rw [show (1 : Int) = ((1 : Nat) : Int) from rfl, u64_and_nat m 1 (by omega) (by omega), Nat.and_one_is_mod]
  simp only [decide_eq_true_eq]
  omega

theorem of_loop (s : Int) (h0 : 0 ≤ s) (h1 : s ≤ 18446744073709551615) (d : Nat) : ∀ (k i : Nat) (acc : List Int), i + d = 7 → acc.length ≤ i → d < k →
    member_of.l0 k s acc i = some (acc ++ (rng i d).filter (bit s)) := by
  induction d with
  | zero =>
    intro k i acc hd ha hk
    obtain ⟨k, rfl⟩ : ∃ m, k = m + 1 := ⟨k - 1, by omega⟩
    simp only [member_of.l0]
    rw [if_neg (by omega), rng_zero]; simp
  | succ d ih =>
    intro k i acc hd ha hk
    obtain ⟨k, rfl⟩ : ∃ m, k = m + 1 := ⟨k - 1, by omega⟩
    simp only [member_of.l0]
    rw [if_pos (by omega), if_pos (by omega), rng_succ, w1 (by omega) (by omega), show ((i : Int) + 1) = ((i + 1 : Nat) : Int) by omega]
    by_cases h : bit s i = true
    · rw [if_pos ((bit_test s i h0 h1 (by omega)).2 h), if_pos (by omega), ih k (i + 1) (acc ++ [(i : Int)]) (by omega) (by simp; omega) (by omega), List.filter_cons, if_pos h]
      simp
    · rw [if_neg (fun e => h ((bit_test s i h0 h1 (by omega)).1 e)), ih k (i + 1) acc (by omega) (by omega) (by omega), List.filter_cons, if_neg h]
theorem of_f (s : Int) (h0 : 0 ≤ s) (h1 : s ≤ 18446744073709551615) (k : Nat) (hk : 7 < k) : member_of.f k s = some (seven.filter (bit s)) := by
  have := of_loop s h0 h1 7 k 0 [] (by omega) (by simp) hk
  unfold member_of.f
  simpa [seven] using this
theorem within_loop (s : Int) (h0 : 0 ≤ s) (h1 : s ≤ 18446744073709551615) (d : Nat) : ∀ (k i : Nat) (acc : List Int), i + d = 7 → acc.length ≤ i → d < k →
    curfewlaw29_within.l0 k s acc i = some (acc ++ (rng i d).filter (bit s)) := by
  induction d with
  | zero =>
    intro k i acc hd ha hk
    obtain ⟨k, rfl⟩ : ∃ m, k = m + 1 := ⟨k - 1, by omega⟩
    simp only [curfewlaw29_within.l0]
    rw [if_neg (by omega), rng_zero]; simp
  | succ d ih =>
    intro k i acc hd ha hk
    obtain ⟨k, rfl⟩ : ∃ m, k = m + 1 := ⟨k - 1, by omega⟩
    simp only [curfewlaw29_within.l0]
    rw [if_pos (by omega), if_pos (by omega), rng_succ, w1 (by omega) (by omega), show ((i : Int) + 1) = ((i + 1 : Nat) : Int) by omega]
    by_cases h : bit s i = true
    · rw [if_pos ((bit_test s i h0 h1 (by omega)).2 h), if_pos (by omega), ih k (i + 1) (acc ++ [(i : Int)]) (by omega) (by simp; omega) (by omega), List.filter_cons, if_pos h]
      simp
    · rw [if_neg (fun e => h ((bit_test s i h0 h1 (by omega)).1 e)), ih k (i + 1) acc (by omega) (by omega) (by omega), List.filter_cons, if_neg h]
theorem within_f (s : Int) (h0 : 0 ≤ s) (h1 : s ≤ 18446744073709551615) (k : Nat) (hk : 7 < k) : curfewlaw29_within.f k s = some (seven.filter (bit s)) := by
  have := within_loop s h0 h1 7 k 0 [] (by omega) (by simp) hk
  unfold curfewlaw29_within.f
  simpa [seven] using this

/-! The set of a list, as a number. -/
def setn (l : List Int) : Nat := l.foldl (fun s n => if 0 ≤ n ∧ n < 7 then s ||| 2 ^ n.toNat else s) 0
theorem node_f (n : Int) : member_node.f n = some (decide (0 ≤ n ∧ n < 7)) := by
  unfold member_node.f
  by_cases h : n ≥ 0
  · rw [if_pos h]; simp [show (0 : Int) ≤ n from h]
  · rw [if_neg h]; simp [show ¬ (0 : Int) ≤ n from h]
theorem shl_one (n : Int) (h0 : 0 ≤ n) (h1 : n < 64) : shl .u64 1 n = ((2 ^ n.toNat : Nat) : Int) := by
  unfold shl
  obtain ⟨m, rfl⟩ := Int.eq_ofNat_of_zero_le h0
  rw [Int.toNat_natCast, Nat.min_eq_left (by show m ≤ 64; omega), Int.one_mul, IntKind.wrap_u64]
  have h2 : (2 : Nat) ^ m < 2 ^ 64 := Nat.pow_lt_pow_right (by decide) (by omega)
  have h3 : ((2 : Int) ^ m) = ((2 ^ m : Nat) : Int) := by simp
  rw [h3]
  have h4 : (2 : Nat) ^ 64 = 18446744073709551616 := by decide
  rw [h4] at h2
  generalize (2 : Nat) ^ m = p at h2 ⊢
  omega
theorem or_lt_128 {s n : Nat} (hs : s < 128) (hn : n < 7) : s ||| 2 ^ n < 128 := Nat.or_lt_two_pow (n := 7) hs (Nat.pow_lt_pow_right (by decide) hn)
theorem set_fold_lt (l : List Int) : ∀ s : Nat, s < 128 → l.foldl (fun s n => if 0 ≤ n ∧ n < 7 then s ||| 2 ^ n.toNat else s) s < 128 := by
  induction l with
  | nil => intro s h; exact h
  | cons n l ih =>
    intro s h
    rw [List.foldl_cons]
    refine ih _ ?_
    split
    · exact or_lt_128 h (by omega)
    · exact h
theorem setn_lt (l : List Int) : setn l < 128 := set_fold_lt l 0 (by decide)
theorem set_loop (l : List Int) (hl : l.length ≤ 1000) (d : Nat) : ∀ (k i s : Nat), l.length - i = d → i ≤ l.length → d < k → s < 128 →
    member_set.l0 k (s : Int) l (l.length : Int) i = some (((l.drop i).foldl (fun s n => if 0 ≤ n ∧ n < 7 then s ||| 2 ^ n.toNat else s) s : Nat) : Int) := by
  induction d with
  | zero =>
    intro k i s hd hi hk hs
    obtain ⟨k, rfl⟩ : ∃ m, k = m + 1 := ⟨k - 1, by omega⟩
    simp only [member_set.l0]
    rw [if_neg (by omega), List.drop_of_length_le (by omega)]; rfl
  | succ d ih =>
    intro k i s hd hi hk hs
    obtain ⟨k, rfl⟩ : ∃ m, k = m + 1 := ⟨k - 1, by omega⟩
    simp only [member_set.l0]
    rw [if_pos (by omega), if_pos (by omega), if_pos (by omega), node_f, drop_rd l i (by omega), w1 (by omega) (by omega), show ((i : Int) + 1) = ((i + 1 : Nat) : Int) by omega]
    simp only [Option.bind_some, decide_eq_true_eq, List.foldl_cons]
    by_cases h : 0 ≤ rd l i ∧ rd l i < 7
    · have h2 : 2 ^ (rd l i).toNat < 128 := by
        have : (2 : Nat) ^ (rd l i).toNat < 2 ^ 7 := Nat.pow_lt_pow_right (by decide) (by omega)
        simpa using this
      rw [if_pos h, if_pos h.1, if_pos h, shl_one _ h.1 (by omega), u64_or_nat _ _ (by omega) (by omega)]
      exact ih k (i + 1) _ (by omega) (by omega) (by omega) (or_lt_128 hs (by omega))
    · rw [if_neg h, if_neg h]
      exact ih k (i + 1) _ (by omega) (by omega) (by omega) hs
theorem set_f (l : List Int) (hl : l.length ≤ 1000) (k : Nat) (hk : l.length < k) : member_set.f k l = some (setn l : Int) := by
  have := set_loop l hl l.length k 0 0 (by omega) (by omega) hk (by decide)
  unfold member_set.f
  simpa [setn] using this
end Go.Proofs.Ytabdjehnglmlpaa.PM
