/- A row's bytes: the reference's, and what is read, both ways. -/
import Derived.Test.YtabdjehnglmlpaaNo
import Derived.Test.YtabdjehnglmlpaaNb
import Derived.Test.YtabdjehnglmlpaaM5
import Derived.Test.YtabdjehnglmlpaaMs
namespace Go.Proofs.Ytabdjehnglmlpaa
open Go.RowKit Go.Proofs.YtabdjehnglmlpaaW.PrintWords
set_option linter.unusedVariables false
set_option linter.unusedSimpArgs false
open PM (snd_ setn seven bit rng)

def part (f : Nat → Bool) : Nat → Nat
  | 0 => 0
  | i + 1 => if f i then part f i + 2 ^ i else part f i
theorem part_lt (f : Nat → Bool) : ∀ i, part f i < 2 ^ i
  | 0 => by simp [part]
  | i + 1 => by have := part_lt f i; rw [part, Nat.pow_succ]; split <;> omega
theorem part_congr (f g : Nat → Bool) : ∀ i, (∀ j, j < i → f j = g j) → part f i = part g i
  | 0, _ => rfl
  | i + 1, h => by rw [part, part, part_congr f g i (fun j hj => h j (by omega)), h i (by omega)]
theorem part_bits : ∀ x, x < 128 → part x.testBit 7 = x := by decide +kernel
theorem part_setn (l : List Int) : part (fun i => decide ((i : Int) ∈ l)) 7 = setn l := by
  rw [part_congr _ (setn l).testBit 7 (fun j hj => (PM.setn_bit l j hj).symm)]
  exact part_bits _ (PM.setn_lt l)
theorem pow_le_64 (i : Nat) (h : i ≤ 7) : (2 : Int) ^ i ≤ 128 ∧ 0 < (2 : Int) ^ i ∧ (2 : Int) ^ (i + 1) = 2 ^ i * 2 := by
  rcases (by omega : i = 0 ∨ i = 1 ∨ i = 2 ∨ i = 3 ∨ i = 4 ∨ i = 5 ∨ i = 6 ∨ i = 7) with rfl | rfl | rfl | rfl | rfl | rfl | rfl | rfl <;> decide

theorem rBytes_loop (l : List Int) (hl : l.length ≤ 1000) (d : Nat) : ∀ (k i : Nat), i + d = 7 → 1002 + d < k →
    PM.curfewref29_Bytes.l0 k l ((part (fun j => decide ((j : Int) ∈ l)) i : Nat) : Int) (2 ^ i) i = some (encN (setn l) 0) := by
  induction d with
  | zero =>
    intro k i hi hk
    obtain rfl : i = 7 := by omega
    obtain ⟨k, rfl⟩ : ∃ j, k = j + 1 := ⟨k - 1, by omega⟩
    have := PM.setn_lt l
    simp only [PM.curfewref29_Bytes.l0]
    rw [if_neg (by decide), part_setn, RefNum_f (by omega) (by omega) k (by omega)]; rfl
  | succ d ih =>
    intro k i hi hk
    obtain ⟨k, rfl⟩ : ∃ j, k = j + 1 := ⟨k - 1, by omega⟩
    have h := ih k (i + 1) (by omega) (by omega)
    obtain ⟨p1, p2, p3⟩ := pow_le_64 i (by omega)
    have hp := part_lt (fun j => decide ((j : Int) ∈ l)) i
    have hp' : ((part (fun j => decide ((j : Int) ∈ l)) i : Nat) : Int) < 2 ^ i := by exact_mod_cast hp
    simp only [PM.curfewref29_Bytes.l0]
    rw [if_pos (by omega), PM.rHas_f l i hl k (by omega), Option.bind_some, PM.w1 (by omega) (by omega), u64_id (x := 2 ^ i * 2) (by omega) (by omega), ← p3]
    rw [show ((i + 1 : Nat) : Int) = (i : Int) + 1 by omega] at h
    by_cases hm : (i : Int) ∈ l
    · rw [if_pos (decide_eq_true hm), u64_id (by omega) (by omega)]
      rw [part, if_pos (decide_eq_true hm)] at h
      have e : ((part (fun j => decide ((j : Int) ∈ l)) i + 2 ^ i : Nat) : Int) = ((part (fun j => decide ((j : Int) ∈ l)) i : Nat) : Int) + 2 ^ i := by push_cast; rfl
      rw [e] at h
      exact h
    · rw [if_neg (by simp [hm])]
      rw [part, if_neg (by simp [hm])] at h
      exact h

theorem rBytes_calls {w : World} {A : Option Addr} {n c : Nat} {l : List Int} (hr : CI w A n l) (hc : n ≤ c) (hn : n ≤ 1000) :
    Calls Try.prog 90 #[.slice A n c] w fun e w' => ∃ v, e = .returned v ∧ OwnB w' w.heap.size v (encN (setn l) 0) ∧ Below w.heap.size w w' := by
  obtain rfl : l.length = n := hr.1
  refine (PM.curfewref29_Bytes.calls 3000 A c l (encN (setn l) 0) w hr hc ?_).mono fun e w' ⟨v, h1, h2, h3⟩ => ⟨v, h1, Kd.own_of_R (enc := Value.int .u8) h2, h3⟩
  have := rBytes_loop l hn 7 3000 0 rfl (by decide)
  exact this

def mread (xs : List Int) : List Int × Bool :=
  if rEnd (rNum (xs, false) 127).2 ≠ 0 ∨ (rNum (xs, false) 127).1 = 0 then ([], false) else (seven.filter (bit (rNum (xs, false) 127).1), true)
def RowOk (w : World) (s : List Int × Bool) (e : Ending) (w' : World) : Prop :=
  ∃ A n c, e = .returned (.tuple #[.slice A n c, .bool s.2]) ∧ n ≤ c ∧ CI w' A n s.1 ∧ Below w.heap.size w w'

set_option maxHeartbeats 2000000 in
theorem MRead_calls {w : World} {A : Option Addr} {n c : Nat} {xs : List Int} (hr : Kd.C (Kd.int .u8) w A n xs) (hc : n ≤ c) (hby : Byt xs) :
    Calls Try.prog 89 #[.slice A n c] w (RowOk w (mread xs)) := by
  obtain ⟨H, hH⟩ : ∃ H, w.heap.size = H := ⟨_, rfl⟩
  have HH := Lib.hid hH
  have hO := Lib.hid (Open_here hr hc hH)
  have HY := Lib.hid hby
  have hrg := rNum_range (s := (xs, false)) hby (most := 127) (by decide)
  have hq : ∃ q, rNum (xs, false) 127 = q := ⟨_, rfl⟩
  obtain ⟨q, hq⟩ := hq
  have hm : mread xs = if rEnd q.2 ≠ 0 ∨ q.1 = 0 then ([], false) else (seven.filter (bit q.1), true) := by unfold mread; rw [hq]
  rw [hm]
  rw [hq] at hrg
  obtain ⟨s, r, b⟩ := q
  have HQ := Lib.hid hq
  obtain ⟨g0, g1, g2⟩ := hrg
  simp only at g0 g1 g2 ⊢
  clear hr hH hby hq hm
  rcases (show Hid (rEnd (r, b) = 20) ∨ Hid (rEnd (r, b) = 0) by unfold rEnd; split <;> simp [Hid]) with hE | hE
  · rw [hE.out, if_pos (.inl (by decide))]
    go_enter Try.func89, Try.ntmps89
    go_wp2_with fail
    with_reducible refine hO.out.mono ?_
    rintro e w1 ⟨rfl, w0, h0, hB, hR, hb⟩
    have B1 := Lib.hid hb
    have N := Num_calls (most := 127) hB hR HY.out
    rw [HQ.out] at N
    have NN := Lib.hid N
    clear hO hB hR hb h0 N
    go_wp2_with fail
    with_reducible refine NN.out.mono ?_
    rintro e w2 ⟨hm, rfl, hR⟩
    have R2 := Lib.hid hR
    have B2 := Lib.hid (Below.mod_trans B1.out hm (Nat.le_refl _) (fun i hi e => by have := HH.out; omega))
    have E0 := End_post hR
    rw [hE.out] at E0
    have E2 := Lib.hid E0
    clear hm hR NN B1 E0
    go_wp2_with fail
    with_reducible refine E2.out.mono ?_
    rintro e w3 ⟨rfl, rfl⟩
    go_wp2
    go_ret2
    exact ⟨none, 0, 0, rfl, Nat.le_refl _, nil_reads, B2.out⟩
  · rw [hE.out]
    by_cases hs : s = 0
    · rw [if_pos (.inr hs)]
      subst hs
      go_enter Try.func89, Try.ntmps89
      go_wp2_with fail
      with_reducible refine hO.out.mono ?_
      rintro e w1 ⟨rfl, w0, h0, hB, hR, hb⟩
      have B1 := Lib.hid hb
      have N := Num_calls (most := 127) hB hR HY.out
      rw [HQ.out] at N
      have NN := Lib.hid N
      clear hO hB hR hb h0 N
      go_wp2_with fail
      with_reducible refine NN.out.mono ?_
      rintro e w2 ⟨hm, rfl, hR⟩
      have R2 := Lib.hid hR
      have B2 := Lib.hid (Below.mod_trans B1.out hm (Nat.le_refl _) (fun i hi e => by have := HH.out; omega))
      have E0 := End_post hR
      rw [hE.out] at E0
      have E2 := Lib.hid E0
      clear hm hR NN B1 E0
      go_wp2_with fail
      with_reducible refine E2.out.mono ?_
      rintro e w3 ⟨rfl, rfl⟩
      go_wp2
      go_ret2
      exact ⟨none, 0, 0, rfl, Nat.le_refl _, nil_reads, B2.out⟩
    · rw [if_neg (by simp [hs])]
      go_enter Try.func89, Try.ntmps89
      go_wp2_with fail
      with_reducible refine hO.out.mono ?_
      rintro e w1 ⟨rfl, w0, h0, hB, hR, hb⟩
      have B1 := Lib.hid hb
      have N := Num_calls (most := 127) hB hR HY.out
      rw [HQ.out] at N
      have NN := Lib.hid N
      clear hO hB hR hb h0 N
      go_wp2_with fail
      with_reducible refine NN.out.mono ?_
      rintro e w2 ⟨hm, rfl, hR⟩
      have R2 := Lib.hid hR
      have B2 := Lib.hid (Below.mod_trans B1.out hm (Nat.le_refl _) (fun i hi e => by have := HH.out; omega))
      have E0 := End_post hR
      rw [hE.out] at E0
      have E2 := Lib.hid E0
      clear hm hR NN B1 E0
      have HO := Lib.hid (PM.member_of.calls 100 s _ w2 (PM.of_f s g0 g2 100 (by decide)))
      have hs' : (s == 0) = false := beq_eq_false_iff_ne.mpr hs
      go_wp2_with fail
      with_reducible refine E2.out.mono ?_
      rintro e w3 ⟨rfl, rfl⟩
      go_wp2_with fail
      with_reducible refine HO.out.mono ?_
      rintro e w4 ⟨v, rfl, hv, hb⟩
      obtain ⟨A2, c2, rfl, hc2, hC⟩ := Kd.R_reads hv
      have C4 := Lib.hid hC
      have B4 := Lib.hid (B2.out.trans (hb.mono B2.out.size))
      clear hv hC hb
      go_wp2
      go_ret2
      exact ⟨A2, _, c2, rfl, hc2, C4.out, B4.out⟩

end Go.Proofs.Ytabdjehnglmlpaa
