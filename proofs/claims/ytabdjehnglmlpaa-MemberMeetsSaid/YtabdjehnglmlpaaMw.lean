/- MemberMeets: two quorums of rows that are near have a member in common; the walk. -/
import Derived.Test.YtabdjehnglmlpaaMv
import Derived.Deep.LoopGhost
namespace Go.Proofs.Ytabdjehnglmlpaa
open Go.RowKit Go.Proofs.YtabdjehnglmlpaaW.PrintWords
set_option linter.unusedVariables false
set_option linter.unusedSimpArgs false
open PM (snd_ quo_ near_ reach_ with_ without_ setn seven bit)

theorem count_meet (a b f g : Int → Bool) (hf : ∀ x, f x = true → a x = true) (hg : ∀ x, g x = true → b x = true) : ∀ L : List Int, (∀ x ∈ L, ¬ (f x = true ∧ g x = true)) →
    2 * (L.countP f + L.countP g) ≤ L.countP a + L.countP b + L.countP (fun x => a x != b x)
  | [], _ => by simp
  | x :: L, h => by
    have ih := count_meet a b f g hf hg L (fun y hy => h y (List.mem_cons_of_mem _ hy))
    have h0 := h x List.mem_cons_self
    have h1 := hf x
    have h2 := hg x
    simp only [List.countP_cons]
    cases ha : a x <;> cases hb : b x <;> cases hf' : f x <;> cases hg' : g x <;> simp_all <;> omega
theorem meets {a b : List Int} {x y : Int} (h : near_ a b = true) (hx : 2 * a.countP (bit x) > a.length) (hy : 2 * b.countP (bit y) > b.length) : ∃ n ∈ a, n ∈ b ∧ bit x n = true ∧ bit y n = true := by
  unfold PM.near_ at h
  simp only [Bool.and_eq_true, decide_eq_true_eq] at h
  obtain ⟨ha, hb, hal⟩ := h
  have ea : a = PM.rowOf a := (of_decide_eq_true ha).2
  have eb : b = PM.rowOf b := (of_decide_eq_true hb).2
  apply Classical.byContradiction
  intro hno
  have key := count_meet (fun n => decide (n ∈ a)) (fun n => decide (n ∈ b)) (fun n => bit x n && decide (n ∈ a)) (fun n => bit y n && decide (n ∈ b))
    (fun n hn => by simp only [Bool.and_eq_true] at hn; exact hn.2) (fun n hn => by simp only [Bool.and_eq_true] at hn; exact hn.2) seven
    (fun n _ hn => by
      simp only [Bool.and_eq_true, decide_eq_true_eq] at hn
      exact hno ⟨n, hn.1.2, hn.2.2, hn.1.1, hn.2.1⟩)
  have c1 : a.countP (bit x) = seven.countP (fun n => bit x n && decide (n ∈ a)) := by
    conv => lhs; rw [ea]
    unfold PM.rowOf
    rw [List.countP_filter]
  have c2 : b.countP (bit y) = seven.countP (fun n => bit y n && decide (n ∈ b)) := by
    conv => lhs; rw [eb]
    unfold PM.rowOf
    rw [List.countP_filter]
  have c3 : a.length = seven.countP (fun n => decide (n ∈ a)) := by
    conv => lhs; rw [ea]
    unfold PM.rowOf
    rw [List.countP_eq_length_filter]
  have c4 : b.length = seven.countP (fun n => decide (n ∈ b)) := by
    conv => lhs; rw [eb]
    unfold PM.rowOf
    rw [List.countP_eq_length_filter]
  unfold PM.alone at hal
  omega

theorem and_shr (x y : Int) (i : Nat) (x0 : 0 ≤ x) (x1 : x ≤ 18446744073709551615) (y0 : 0 ≤ y) (y1 : y ≤ 18446744073709551615) :
    (Go.bits .and .u64 ((Go.bits .and .u64 x y) / 2 ^ i) 1 == 1) = (bit x i && bit y i) := by
  obtain ⟨a, rfl⟩ := Int.eq_ofNat_of_zero_le x0
  obtain ⟨b, rfl⟩ := Int.eq_ofNat_of_zero_le y0
  rw [u64_and_nat a b (by omega) (by omega)]
  have h : (a &&& b) ≤ a := Nat.and_le_left
  rw [shr_bit _ i (by omega) (by omega), PM.bit_nat, PM.bit_nat, PM.bit_nat, Nat.testBit_and]
theorem bits_and_range {x y : Int} (x0 : 0 ≤ x) (x1 : x ≤ 18446744073709551615) (y0 : 0 ≤ y) (y1 : y ≤ 18446744073709551615) : 0 ≤ Go.bits .and .u64 x y ∧ Go.bits .and .u64 x y ≤ 18446744073709551615 := by
  obtain ⟨a, rfl⟩ := Int.eq_ofNat_of_zero_le x0
  obtain ⟨b, rfl⟩ := Int.eq_ofNat_of_zero_le y0
  rw [u64_and_nat a b (by omega) (by omega)]
  have h : (a &&& b) ≤ a := Nat.and_le_left
  omega
end Go.Proofs.Ytabdjehnglmlpaa
