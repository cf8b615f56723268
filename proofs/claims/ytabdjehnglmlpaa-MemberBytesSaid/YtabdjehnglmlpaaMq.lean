/- Plain laws of member: Sound, Quorum, Near, Reached, With, Without against the reference. -/
import Derived.Test.YtabdjehnglmlpaaMp
namespace Go.Proofs.Ytabdjehnglmlpaa.PM
open Go.RowKit Go.Proofs.YtabdjehnglmlpaaW.PrintWords Go.Proofs.YtabdjehnglmlpaaW.PrintMore
set_option linter.unusedVariables false

theorem bit_nat (m i : Nat) : bit (m : Int) (i : Int) = m.testBit i := by
  unfold bit
  rw [Nat.testBit_eq_decide_div_mod_eq, Int.toNat_natCast]
  have : ((m : Int) / 2 ^ i % 2) = ((m / 2 ^ i % 2 : Nat) : Int) := by simp
  rw [this]
  congr 1
  simp only [eq_iff_iff]
  omega
theorem fold_bit (l : List Int) (i : Nat) (hi : i < 7) : ∀ s : Nat, (l.foldl (fun s n => if 0 ≤ n ∧ n < 7 then s ||| 2 ^ n.toNat else s) s).testBit i = (s.testBit i || decide ((i : Int) ∈ l)) := by
  induction l with
  | nil => intro s; simp
  | cons n l ih =>
    intro s
    rw [List.foldl_cons, ih]
    by_cases h : 0 ≤ n ∧ n < 7
    · rw [if_pos h, Nat.testBit_or, Nat.testBit_two_pow]
      by_cases e : (i : Int) = n
      · have : n.toNat = i := by omega
        simp [e, this]
      · have : ¬ n.toNat = i := by omega
        simp [e, this]
    · rw [if_neg h]
      have : ¬ (i : Int) = n := by omega
      simp [this]
theorem setn_bit (l : List Int) (i : Nat) (hi : i < 7) : (setn l).testBit i = decide ((i : Int) ∈ l) := by
  unfold setn; rw [fold_bit l i hi]; simp
theorem mem_seven {x : Int} (h : x ∈ seven) : ∃ i : Nat, x = i ∧ i < 7 := by
  rw [seven_eq] at h
  simp only [List.mem_cons, List.not_mem_nil, or_false] at h
  exact ⟨x.toNat, by omega, by omega⟩
theorem mem_seven_iff {x : Int} : x ∈ seven ↔ 0 ≤ x ∧ x < 7 := by
  rw [seven_eq]
  simp only [List.mem_cons, List.not_mem_nil, or_false]
  omega
def rowOf (l : List Int) : List Int := seven.filter fun x => decide (x ∈ l)
theorem of_set (l : List Int) : seven.filter (bit (setn l : Int)) = rowOf l := by
  unfold rowOf
  apply List.filter_congr
  intro x hx
  obtain ⟨i, rfl, hi⟩ := mem_seven hx
  rw [bit_nat, setn_bit l i hi]

/-- Is it a row? -/
def snd_ (l : List Int) : Bool := decide (l ≠ [] ∧ l = rowOf l)
theorem rowOf_len (l : List Int) : (rowOf l).length ≤ 7 := by
  have := List.length_filter_le (fun x => decide (x ∈ l)) seven
  have h7 : seven.length = 7 := by decide
  unfold rowOf; omega
theorem Sound_f (l : List Int) (hl : l.length ≤ 1000) (k : Nat) (hk : 1000 < k) : member_Sound.f k l = some (snd_ l) := by
  unfold member_Sound.f snd_
  by_cases h : (l.length : Int) > 0
  · rw [if_pos h, set_f l hl k (by omega)]
    simp only [Option.bind_some]
    rw [of_f _ (by omega) (by have := setn_lt l; omega) k (by omega)]
    simp only [Option.bind_some]
    rw [of_set, Same_f l (rowOf l) hl k (by omega)]
    have hne : l ≠ [] := by intro e; subst e; simp at h
    simp [hne]
  · rw [if_neg h]
    have hne : l = [] := List.eq_nil_of_length_eq_zero (by omega)
    simp [hne]

/-! The reference's rule, of neighbours. -/
def lowB : Option Int → Int → Bool
  | some q, x => decide (x ≤ q)
  | none, _ => false
def chk : Option Int → List Int → Bool
  | _, [] => true
  | p, x :: t => if x < 0 then false else if x > 6 then false else if lowB p x then false else chk (some x) t
theorem Members_loop (l : List Int) (hl : l.length ≤ 1000) (d : Nat) : ∀ (k i : Nat), l.length - i = d → i ≤ l.length → d < k →
    curfewref27_Members.l0 k l i = some (chk (if 0 < i then some (rd l ((i : Int) - 1)) else none) (l.drop i)) := by
  induction d with
  | zero =>
    intro k i hd hi hk
    obtain ⟨k, rfl⟩ : ∃ m, k = m + 1 := ⟨k - 1, by omega⟩
    simp only [curfewref27_Members.l0]
    rw [if_neg (by omega), List.drop_of_length_le (by omega)]; rfl
  | succ d ih =>
    intro k i hd hi hk
    obtain ⟨k, rfl⟩ : ∃ m, k = m + 1 := ⟨k - 1, by omega⟩
    have hn := ih k (i + 1) (by omega) (by omega) (by omega)
    rw [if_pos (by omega), show ((i + 1 : Nat) : Int) - 1 = (i : Int) by omega, show ((i + 1 : Nat) : Int) = (i : Int) + 1 by omega] at hn
    simp only [curfewref27_Members.l0]
    rw [if_pos (by omega), if_pos (by omega), drop_rd l i (by omega), chk, w1 (by omega) (by omega)]
    by_cases h1 : rd l i < 0
    · rw [if_pos h1, if_pos h1]
    · rw [if_neg h1, if_neg h1]
      by_cases h2 : rd l i > 6
      · rw [if_pos h2, if_pos h2]
      · rw [if_neg h2, if_neg h2]
        by_cases h3 : 0 < i
        · have e : wrap64 ((i : Int) - 1) = (i : Int) - 1 := by unfold wrap64; omega
          rw [if_pos (by omega), e, if_pos (by omega), if_pos (by omega), if_pos h3]
          simp only [lowB, decide_eq_true_eq]
          by_cases h4 : rd l i ≤ rd l ((i : Int) - 1)
          · rw [if_pos h4, if_pos h4]
          · rw [if_neg h4, if_neg h4]; exact hn
        · rw [if_neg (by omega), if_neg h3]
          simp only [lowB, Bool.false_eq_true, if_false]
          exact hn
theorem pw_seven : seven.Pairwise (· < ·) := by rw [seven_eq]; decide
/-- Two rising lists with the same members are the same. -/
theorem pw_ext : ∀ (a b : List Int), a.Pairwise (· < ·) → b.Pairwise (· < ·) → (∀ x, x ∈ a ↔ x ∈ b) → a = b
  | [], [], _, _, _ => rfl
  | [], y :: b, _, _, h => absurd ((h y).2 List.mem_cons_self) (by simp)
  | x :: a, [], _, _, h => absurd ((h x).1 List.mem_cons_self) (by simp)
  | x :: a, y :: b, ha, hb, h => by
    rw [List.pairwise_cons] at ha hb
    have e : x = y := by
      have h1 := (h x).1 List.mem_cons_self
      have h2 := (h y).2 List.mem_cons_self
      rcases List.mem_cons.1 h1 with h1 | h1
      · exact h1
      · rcases List.mem_cons.1 h2 with h2 | h2
        · exact h2.symm
        · have := ha.1 y h2; have := hb.1 x h1; omega
    subst e
    have := pw_ext a b ha.2 hb.2 (fun z => by
      constructor
      · intro hz
        rcases List.mem_cons.1 ((h z).1 (List.mem_cons_of_mem _ hz)) with e | h2
        · subst e; have := ha.1 z hz; omega
        · exact h2
      · intro hz
        rcases List.mem_cons.1 ((h z).2 (List.mem_cons_of_mem _ hz)) with e | h2
        · subst e; have := hb.1 z hz; omega
        · exact h2)
    rw [this]
theorem chk_iff : ∀ (l : List Int) (p : Option Int), chk p l = true ↔ l.Pairwise (· < ·) ∧ (∀ x ∈ l, 0 ≤ x ∧ x < 7 ∧ ∀ q, p = some q → q < x)
  | [], p => by simp [chk]
  | x :: t, p => by
    rw [chk, List.pairwise_cons]
    by_cases h1 : x < 0
    · rw [if_pos h1]
      constructor
      · intro h; cases h
      · rintro ⟨_, h⟩; have := (h x List.mem_cons_self).1; omega
    · rw [if_neg h1]
      by_cases h2 : x > 6
      · rw [if_pos h2]
        constructor
        · intro h; cases h
        · rintro ⟨_, h⟩; have := (h x List.mem_cons_self).2.1; omega
      · rw [if_neg h2]
        have key : (chk (some x) t = true) ↔ t.Pairwise (· < ·) ∧ (∀ y ∈ t, 0 ≤ y ∧ y < 7 ∧ ∀ q, some x = some q → q < y) := chk_iff t (some x)
        rcases p with _ | q
        · simp only [lowB, Bool.false_eq_true, if_false]
          rw [key]
          constructor
          · rintro ⟨ha, hb⟩
            refine ⟨⟨fun y hy => (hb y hy).2.2 x rfl, ha⟩, fun y hy => ?_⟩
            rcases List.mem_cons.1 hy with rfl | hy
            · exact ⟨by omega, by omega, fun q hq => by cases hq⟩
            · exact ⟨(hb y hy).1, (hb y hy).2.1, fun q hq => by cases hq⟩
          · rintro ⟨⟨ha, hb⟩, hc⟩
            exact ⟨hb, fun y hy => ⟨(hc y (List.mem_cons_of_mem _ hy)).1, (hc y (List.mem_cons_of_mem _ hy)).2.1, fun q hq => by injection hq with hq; subst hq; exact ha y hy⟩⟩
        · simp only [lowB, decide_eq_true_eq]
          by_cases h3 : x ≤ q
          · rw [if_pos h3]
            constructor
            · intro h; cases h
            · rintro ⟨_, h⟩; have := (h x List.mem_cons_self).2.2 q rfl; omega
          · rw [if_neg h3, key]
            constructor
            · rintro ⟨ha, hb⟩
              refine ⟨⟨fun y hy => (hb y hy).2.2 x rfl, ha⟩, fun y hy => ?_⟩
              rcases List.mem_cons.1 hy with rfl | hy
              · exact ⟨by omega, by omega, fun q' hq => by injection hq with hq; omega⟩
              · exact ⟨(hb y hy).1, (hb y hy).2.1, fun q' hq => by injection hq with hq; have := (hb y hy).2.2 x rfl; omega⟩
            · rintro ⟨⟨ha, hb⟩, hc⟩
              exact ⟨hb, fun y hy => ⟨(hc y (List.mem_cons_of_mem _ hy)).1, (hc y (List.mem_cons_of_mem _ hy)).2.1, fun q' hq => by injection hq with hq; subst hq; exact ha y hy⟩⟩
theorem rowOf_mem {l : List Int} {x : Int} : x ∈ rowOf l ↔ (0 ≤ x ∧ x < 7) ∧ x ∈ l := by
  unfold rowOf; rw [List.mem_filter, mem_seven_iff]; simp
theorem rowOf_pw (l : List Int) : (rowOf l).Pairwise (· < ·) := pw_seven.filter _
theorem row_iff (l : List Int) : l = rowOf l ↔ chk none l = true := by
  rw [chk_iff]
  constructor
  · intro h
    rw [h]
    refine ⟨rowOf_pw l, fun x hx => ?_⟩
    have := (rowOf_mem.1 hx).1
    exact ⟨this.1, this.2, fun q hq => by cases hq⟩
  · rintro ⟨h1, h2⟩
    refine pw_ext l (rowOf l) h1 (rowOf_pw l) (fun x => ?_)
    rw [rowOf_mem]
    constructor
    · intro hx; exact ⟨⟨(h2 x hx).1, (h2 x hx).2.1⟩, hx⟩
    · intro hx; exact hx.2
theorem rSound_f (l : List Int) (hl : l.length ≤ 1000) (k : Nat) (hk : 1001 < k) : curfewref29_Sound.f k l = some (snd_ l) := by
  have hm : curfewref27_Members.f k l = some (snd_ l) := by
    obtain ⟨k, rfl⟩ : ∃ m, k = m + 1 := ⟨k - 1, by omega⟩
    unfold curfewref27_Members.f snd_
    by_cases h : (l.length : Int) < 1
    · have hne : l = [] := List.eq_nil_of_length_eq_zero (by omega)
      rw [if_pos h]; simp [curfewref27_Members.j0, hne]
    · have hne : l ≠ [] := by intro e; subst e; simp at h
      rw [if_neg h]
      by_cases h7 : (l.length : Int) > 7
      · have : ¬ l = rowOf l := fun e => by have h8 := rowOf_len l; rw [← e] at h8; omega
        simp [curfewref27_Members.j0, h7, this]
      · simp only [curfewref27_Members.j0, h7, decide_false, Bool.false_eq_true, if_false]
        have h1 := Members_loop l hl l.length k 0 (by omega) (by omega) (by omega)
        rw [if_neg (by omega), List.drop_zero] at h1
        rw [show ((0 : Nat) : Int) = 0 from rfl] at h1
        rw [h1]
        congr 1
        rw [Bool.eq_iff_iff, decide_eq_true_eq]
        rw [row_iff]
        simp [hne]
  unfold curfewref29_Sound.f
  rw [hm]; rfl
end Go.Proofs.Ytabdjehnglmlpaa.PM
