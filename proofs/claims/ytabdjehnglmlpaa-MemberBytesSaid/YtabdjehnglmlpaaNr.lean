/- The reference's row that is read of bytes. -/
import Derived.Test.YtabdjehnglmlpaaNp
namespace Go.Proofs.Ytabdjehnglmlpaa
open Go.RowKit Go.Proofs.YtabdjehnglmlpaaW.PrintWords
set_option linter.unusedVariables false
set_option linter.unusedSimpArgs false
open PM (snd_ setn seven bit rng)

theorem info3' : (Try.prog.info? 3).map (fun i => (i.zero, i.size, i.bytes)) = some (some (.int .i64 0), 1, 8) := by kernel_rfl

theorem Ref.new {w : World} {A : Option Addr} {n c : Nat} {xs : List Int} (hr : Kd.C (Kd.int .u8) w A n xs) (hc : n ≤ c) :
    Ref w (w.alloc (.cells #[.slice A n c, .bool false] 89)) w.heap.size xs false := by
  obtain rfl : xs.length = n := hr.1
  exact ⟨A, c, by simpa using heap_alloc_new w _, Nat.le_refl _, hc, hr⟩

def upto (s : Int) (k : Nat) : List Int := (rng 0 k).filter (bit s)
theorem rng_snoc (k : Nat) : rng 0 (k + 1) = rng 0 k ++ [(k : Int)] := by
  unfold PM.rng; rw [List.range_succ, List.map_append]; simp
theorem upto_succ (s : Int) (k : Nat) : upto s (k + 1) = if bit s k then upto s k ++ [(k : Int)] else upto s k := by
  unfold upto; rw [rng_snoc, List.filter_append]
  cases h : bit s k <;> simp [h]
theorem upto_len (s : Int) (k : Nat) : (upto s k).length ≤ k := by
  have h := List.length_filter_le (bit s) (rng 0 k)
  have : (rng 0 k).length = k := by unfold PM.rng; simp
  unfold upto; omega
theorem bit_half (s : Int) (k : Nat) : (s / 2 ^ k % 2 == 1) = bit s k := by
  unfold PM.bit; rw [Int.toNat_natCast]; rfl
theorem half (s : Int) (k : Nat) : s / 2 ^ k / 2 = s / 2 ^ (k + 1) := by
  rw [Int.ediv_ediv_of_nonneg (Int.pow_nonneg (by decide)), Int.pow_succ]

set_option maxRecDepth 100000 in
set_option maxHeartbeats 2000000 in
theorem rRead_bad {w : World} {A : Option Addr} {n c : Nat} {xs : List Int} (hr : Kd.C (Kd.int .u8) w A n xs) (hc : n ≤ c) (hby : Byt xs) (hx : rEnd (rNum (xs, false) 127).2 = 20 ∨ (rEnd (rNum (xs, false) 127).2 = 0 ∧ (rNum (xs, false) 127).1 = 0)) :
    Calls Try.prog 91 #[.slice A n c] w (RowOk w ([], false)) := by
  have R1 := Lib.hid (Ref.new hr hc)
  have HB := Lib.hid ((Below.refl _ w).alloc (Nat.le_refl w.heap.size) (.cells #[.slice A n c, .bool false] 89))
  have N := RNum_calls (most := 127) HB.out R1.out hby
  obtain ⟨⟨s, r, b⟩, hq⟩ : ∃ q, rNum (xs, false) 127 = q := ⟨_, rfl⟩
  rw [hq] at hx N
  have NN := Lib.hid N
  clear N hq hr hby
  simp only at hx
  rcases hx with hx | ⟨hx, rfl⟩
  · go_enter Try.func91, Try.ntmps91
    go_wp2_with fail
    with_reducible refine NN.out.mono ?_
    rintro e w2 ⟨hm, rfl, hR⟩
    have B2 := Lib.hid (Below.mod_trans HB.out hm (by simp) (fun i hi e => by omega))
    have E0 := REnd_calls hR
    rw [hx] at E0
    have E2 := Lib.hid E0
    clear hm hR NN E0
    go_wp2_with fail
    with_reducible refine E2.out.mono ?_
    rintro e w3 ⟨rfl, rfl⟩
    go_wp2
    go_ret2
    exact ⟨none, 0, 0, rfl, Nat.le_refl _, nil_reads, B2.out⟩
  · go_enter Try.func91, Try.ntmps91
    go_wp2_with fail
    with_reducible refine NN.out.mono ?_
    rintro e w2 ⟨hm, rfl, hR⟩
    have B2 := Lib.hid (Below.mod_trans HB.out hm (by simp) (fun i hi e => by omega))
    have E0 := REnd_calls hR
    rw [hx] at E0
    have E2 := Lib.hid E0
    clear hm hR NN E0
    go_wp2_with fail
    with_reducible refine E2.out.mono ?_
    rintro e w3 ⟨rfl, rfl⟩
    go_wp2
    go_ret2
    exact ⟨none, 0, 0, rfl, Nat.le_refl _, nil_reads, B2.out⟩

set_option maxRecDepth 100000 in
set_option maxHeartbeats 2000000 in
theorem rRead_good {w : World} {A : Option Addr} {n c : Nat} {xs : List Int} (hr : Kd.C (Kd.int .u8) w A n xs) (hc : n ≤ c) (hby : Byt xs) (hx : rEnd (rNum (xs, false) 127).2 = 0) (hx2 : (rNum (xs, false) 127).1 ≠ 0) :
    Calls Try.prog 91 #[.slice A n c] w (RowOk w (seven.filter (bit (rNum (xs, false) 127).1), true)) := by
  have R1 := Lib.hid (Ref.new hr hc)
  have HB := Lib.hid ((Below.refl _ w).alloc (Nat.le_refl w.heap.size) (.cells #[.slice A n c, .bool false] 89))
  have N := RNum_calls (most := 127) HB.out R1.out hby
  have hrg := rNum_range (s := (xs, false)) hby (most := 127) (by decide)
  obtain ⟨⟨s, r, b⟩, hq⟩ : ∃ q, rNum (xs, false) 127 = q := ⟨_, rfl⟩
  rw [hq] at hx hx2 N hrg ⊢
  obtain ⟨g0, g1, g2⟩ := hrg
  have NN := Lib.hid N
  clear N hq hr hby
  simp only at hx hx2 g0 g1 g2 ⊢
  have hs' : (s == 0) = false := beq_eq_false_iff_ne.mpr hx2
  go_enter Try.func91, Try.ntmps91
  go_wp2_with fail
  with_reducible refine NN.out.mono ?_
  rintro e w2 ⟨hm, rfl, hR⟩
  have B2 := Lib.hid (Below.mod_trans HB.out hm (by simp) (fun i hi e => by omega))
  have E0 := REnd_calls hR
  rw [hx] at E0
  have E2 := Lib.hid E0
  clear hm hR NN E0 HB R1
  go_wp2_with fail
  with_reducible refine E2.out.mono ?_
  rintro e w3 ⟨rfl, rfl⟩
  go_wp2
  go_loopw [5, 6, 7] (fun su v i wr => ∃ k : Nat, k ≤ 7 ∧ i = .int .i64 k ∧ su = .int .u64 (s / 2 ^ k) ∧ Hid (Kd.R (Kd.int .i64) 3 wr w.heap.size (fun _ => True) v (upto s k)) ∧ Hid (Below w.heap.size w wr)) (fun _ _ i _ => 7 - (intOf i).toNat)
  case atStart => exact ⟨0, by decide, rfl, by simp, Kd.R_nil _ _ _ _ _, B2.out⟩
  case round =>
    obtain ⟨k, hk, rfl, rfl, HO, HB⟩ := hrel
    by_cases hlt : k < 7
    · have hh := Lib.hid (half s k)
      have hbit := bit_half s k
      have hup := Lib.hid (upto_succ s k)
      have hul := upto_len s k
      have d0 : 0 ≤ s / 2 ^ k := Int.ediv_nonneg g0 (Int.pow_nonneg (by decide))
      have d1 : s / 2 ^ k ≤ 127 := Int.le_trans (Int.ediv_le_self _ g0) g1
      cases hb1 : bit s k
      · rw [hb1] at hbit hup
        have hu2 : Hid (upto s (k + 1) = upto s k) := hup.out
        clear hup
        generalize s / 2 ^ k = S at *
        go_wp2
        go_roundw
        case rel => exact ⟨k + 1, by omega, by go_num, by rw [hh.out], by rw [hu2.out]; exact HO.out, HB.out⟩
        case measure => simp [intOf]; omega
      · rw [hb1] at hbit hup
        have hu2 : Hid (upto s (k + 1) = upto s k ++ [(k : Int)]) := hup.out
        clear hup
        generalize s / 2 ^ k = S at *
        go_wp2_with (at_builtin; refine Kd.R_append (Kd.int .i64) (w0 := w) w.heap.size rfl (.tmp 27) (.tmp 29) 36 3 (.int .i64 0) 8 rfl Try.underlying36 info3' rfl (by decide) (by omega) _ (upto s k) (k : Int) [.int .i64 (k : Int)] (fun _ => True) (fun _ => False) rfl rfl ?aP (fun _ hk => hk.elim) ?aF ?aO ?aB ?aS ?aL ?_; (case aP => exact rfl); (case aB => exact HB.out); (case aF => exact (fun _ _ => trivial)); (case aO => exact HO.out); (case aS => exact below_size HB.out); (case aL => omega); intro v105 w7 ho hb hg hat; have HO7 := Lib.hid ho; have HB7 := Lib.hid hb; clear ho hb hg hat HO HB)
        go_roundw
        case rel => exact ⟨k + 1, by omega, by go_num, by rw [hh.out], by rw [hu2.out]; exact HO7.out, HB7.out⟩
        case measure => simp [intOf]; omega
    · obtain rfl : k = 7 := by omega
      obtain ⟨A2, c2, rfl, hc2, hC⟩ := Kd.R_reads HO.out
      go_wp2
      go_ret2
      exact ⟨A2, _, c2, rfl, hc2, hC, HB.out⟩

theorem rRead_calls {w : World} {A : Option Addr} {n c : Nat} {xs : List Int} (hr : Kd.C (Kd.int .u8) w A n xs) (hc : n ≤ c) (hby : Byt xs) :
    Calls Try.prog 91 #[.slice A n c] w (RowOk w (mread xs)) := by
  unfold mread
  rcases (show rEnd (rNum (xs, false) 127).2 = 20 ∨ rEnd (rNum (xs, false) 127).2 = 0 by unfold rEnd; split <;> simp) with hE | hE
  · rw [if_pos (.inl (by rw [hE]; decide))]
    exact rRead_bad hr hc hby (.inl hE)
  · by_cases hs : (rNum (xs, false) 127).1 = 0
    · rw [if_pos (.inr hs)]
      exact rRead_bad hr hc hby (.inr ⟨hE, hs⟩)
    · rw [if_neg (by simp [hs, hE])]
      exact rRead_good hr hc hby hE hs

end Go.Proofs.Ytabdjehnglmlpaa
