/- member.Reached with the closures of the statements. -/
import Derived.Test.YtabdjehnglmlpaaMs
namespace Go.Proofs.Ytabdjehnglmlpaa
open Go.RowKit Go.Proofs.YtabdjehnglmlpaaW.PrintWords
set_option linter.unusedVariables false
set_option linter.unusedSimpArgs false
open PM (snd_ quo_ near_ reach_ with_ without_ setn seven bit)

theorem run_eql_func_nil (w : World) (fn : Fn) (fs cs : Array Value) : (binOp .eql 59 (.func fn fs cs) .nilFunc).run Try.prog w = .ok (.bool false) w := by
  have h : ∀ d, (Op.equalIn (d + 1) 59 (.func fn fs cs) .nilFunc).run Try.prog w = .ok false w := fun d => by
    simp [Op.equalIn, run_underlying Try.underlying59]
  simp only [binOp]
  simp [Op.equal, Op.maxDepth, h 9999]
theorem run_eql_nil_nil (w : World) : (binOp .eql 59 .nilFunc .nilFunc).run Try.prog w = .ok (.bool true) w := by
  have h : ∀ d, (Op.equalIn (d + 1) 59 .nilFunc .nilFunc).run Try.prog w = .ok true w := fun d => by
    simp [Op.equalIn, run_underlying Try.underlying59]
  simp only [binOp]
  simp [Op.equal, Op.maxDepth, h 9999]
theorem ret_bool {a b : Bool} (h : a = b) : Ending.returned (.bool a) = .returned (.bool b) := by rw [h]
theorem shr_bit (x : Int) (i : Nat) (h0 : 0 ≤ x) (h1 : x ≤ 18446744073709551615) : (Go.bits .and .u64 (x / 2 ^ i) 1 == 1) = bit x i := by
  unfold bit
  have hp : (0 : Int) < 2 ^ i := Int.pow_pos (by decide)
  have h2 : 0 ≤ x / 2 ^ i := Int.ediv_nonneg h0 (by omega)
  have h3 : x / 2 ^ i ≤ x := Int.ediv_le_self _ h0
  rw [Int.toNat_natCast]
  generalize x / 2 ^ i = y at h2 h3
  obtain ⟨m, rfl⟩ := Int.eq_ofNat_of_zero_le h2
  rw [show (1 : Int) = ((1 : Nat) : Int) from rfl, u64_and_nat m 1 (by omega) (by omega), Nat.and_one_is_mod, Bool.eq_iff_iff, beq_iff_eq, decide_eq_true_eq]
  omega

set_option maxHeartbeats 1000000 in
theorem says_calls {w : World} {ad : Addr} {s : Int} {n : Nat} (hc : w.cell? ad = some (.int .u64 s)) (h0 : 0 ≤ s) (h1 : s ≤ 18446744073709551615) (hn : n < 7) :
    Calls Try.prog 53 #[.int .i64 n, .pointer (some ad)] w fun e w' => e = .returned (.bool (bit s n)) ∧ w' = w := by
  have hb := Lib.hid (shr_bit s n h0 h1)
  have hn0 : (0 : Int) ≤ (n : Int) := by omega
  have hn7 : (n : Int) < 7 := by omega
  go_enter Try.func53, Try.ntmps53
  go_wp2
  go_ret
  exact ⟨ret_bool hb.out, rfl⟩

theorem snd_mem {l : List Int} (h : snd_ l = true) : ∀ x ∈ l, ∃ m : Nat, x = m ∧ m < 7 := by
  intro x hx
  unfold PM.snd_ at h
  have h2 := (of_decide_eq_true h).2
  rw [h2] at hx
  have h3 := (PM.rowOf_mem.1 hx).1
  exact ⟨x.toNat, by omega, by omega⟩
theorem quo_eq {l : List Int} (h : snd_ l = true) : quo_ l = (l.length : Int) / 2 + 1 := by unfold PM.quo_; rw [if_pos h]

set_option maxHeartbeats 1000000 in
theorem meets64_calls {w : World} {ad : Addr} {s : Int} {n : Nat} (hc : w.cell? ad = some (.int .u64 s)) (h0 : 0 ≤ s) (h1 : s ≤ 18446744073709551615) (hn : n < 7) :
    Calls Try.prog 64 #[.int .i64 n, .pointer (some ad)] w fun e w' => e = .returned (.bool (bit s n)) ∧ w' = w := by
  have hb := Lib.hid (shr_bit s n h0 h1)
  have hn0 : (0 : Int) ≤ (n : Int) := by omega
  have hn7 : (n : Int) < 7 := by omega
  go_enter Try.func64, Try.ntmps64
  go_wp2
  go_ret
  exact ⟨ret_bool hb.out, rfl⟩

set_option maxHeartbeats 1000000 in
theorem meets65_calls {w : World} {ad : Addr} {s : Int} {n : Nat} (hc : w.cell? ad = some (.int .u64 s)) (h0 : 0 ≤ s) (h1 : s ≤ 18446744073709551615) (hn : n < 7) :
    Calls Try.prog 65 #[.int .i64 n, .pointer (some ad)] w fun e w' => e = .returned (.bool (bit s n)) ∧ w' = w := by
  have hb := Lib.hid (shr_bit s n h0 h1)
  have hn0 : (0 : Int) ≤ (n : Int) := by omega
  have hn7 : (n : Int) < 7 := by omega
  go_enter Try.func65, Try.ntmps65
  go_wp2
  go_ret
  exact ⟨ret_bool hb.out, rfl⟩

set_option maxRecDepth 100000 in
set_option maxHeartbeats 1000000 in
theorem Reached53 {w : World} {A : Option Addr} {n c : Nat} {l : List Int} {ad : Addr} {s : Int} (hr : CI w A n l) (hc : n ≤ c) (hn : n ≤ 1000) (hcell : w.cell? ad = some (.int .u64 s)) (h0 : 0 ≤ s) (h1 : s ≤ 18446744073709551615) :
    Calls Try.prog 52 #[.slice A n c, .func (.func 53) #[] #[.pointer (some ad)]] w fun e w' => e = .returned (.bool (snd_ l && decide (2 * l.countP (bit s) > l.length))) ∧ Below w.heap.size w w' := by
  have hlt := World.block_lt_of_cell? w _ hcell
  have HR := Lib.hid hr
  have HL : Hid (l.length = n) := hr.1
  have HC := Lib.hid (MSound_calls hr hc hn)
  have Hcell := Lib.hid hcell
  have HS := Lib.hid (snd_mem (l := l))
  have HQ := Lib.hid (quo_eq (l := l))
  clear hr hcell
  revert HC HS HQ
  cases snd_ l
  · intro HC HS HQ
    rw [Bool.false_and]
    have hfn := fun W fn fs cs => run_eql_func_nil W fn fs cs
    go_enter Try.func52, Try.ntmps52
    go_wp2_with fail
    with_reducible refine HC.out.mono ?_
    rintro e w1 ⟨rfl, hb⟩
    have B1 := Lib.hid hb; clear hb
    go_wp2
    go_ret
    exact ⟨rfl, B1.out⟩
  · intro HC HS HQ
    rw [Bool.true_and]
    have hfn := fun W fn fs cs => run_eql_func_nil W fn fs cs
    go_enter Try.func52, Try.ntmps52
    go_wp2_with fail
    with_reducible refine HC.out.mono ?_
    rintro e w1 ⟨rfl, hb⟩
    have B1 := Lib.hid hb; have R1 := Lib.hid (Kd.C_below HR.out hb); clear hb
    go_wp2_with fail
    with_reducible refine (MQuorum_calls R1.out hc hn).mono ?_
    rintro e w2 ⟨rfl, hb⟩
    rw [HQ.out (by first | rfl | trivial)]
    have B2 := Lib.hid (B1.out.trans (hb.mono B1.out.size)); have R2 := Lib.hid (Kd.C_below R1.out hb); clear hb
    have cell2 : w2.cell? ad = some (.int .u64 s) := (B2.out.cell hlt).trans Hcell.out
    have C2 := Lib.hid cell2
    clear cell2
    have hL : (l.length : Int) ≤ 1000 := by have := HL.out; omega
    have hL0 : (0 : Int) ≤ (l.length : Int) / 2 + 1 := by omega
    have hL1 : (l.length : Int) / 2 + 1 ≤ 1001 := by omega
    generalize hq : (l.length : Int) / 2 + 1 = q at hL0 hL1 ⊢
    have Hq := Lib.hid hq
    clear hq hL
    go_wp2_with fail
    go_loop [5, 7, 19] (fun t _ i => ∃ k : Nat, k ≤ n ∧ i = .int .i64 k ∧ t = .int .i64 (q - ((l.take k).countP (bit s) : Nat))) (fun _ _ i => n - (intOf i).toNat)
    case atStart => exact ⟨0, Nat.zero_le _, rfl, by simp⟩
    case round =>
      obtain ⟨k, hk, rfl, rfl⟩ := hrel
      have hcp : (l.take k).countP (bit s) ≤ k := by
        have h2 := List.countP_le_length (p := bit s) (l := l.take k)
        rw [List.length_take] at h2
        omega
      by_cases hlt2 : k < n
      · obtain ⟨ax, rfl, hx⟩ := Kd.at_int R2.out k (by omega) (by omega)
        rw [Int.toNat_natCast] at hx
        obtain ⟨m, hm, hm7⟩ := HS.out (by first | rfl | trivial) (rd l k) (rd_mem l k (by have := HL.out; omega))
        have hstep : (l.take (k + 1)).countP (bit s) = (l.take k).countP (bit s) + if bit s m = true then 1 else 0 := by
          rw [take_rd l k (by have := HL.out; omega), List.countP_append, hm]; simp [List.countP_cons]
        have HST := Lib.hid hstep
        rw [hm] at hx
        clear hstep hm
        generalize (l.take k).countP (bit s) = cn at hcp HST ⊢
        have HCL := Lib.hid (says_calls C2.out h0 h1 hm7)
        revert HCL HST
        cases bit s m
        · intro HST HCL
          go_wp2_with fail
          with_reducible refine HCL.out.mono ?_
          rintro e w3 ⟨rfl, rfl⟩
          go_wp2
          go_round
          case rel => exact ⟨k + 1, by omega, by go_num, by rw [HST.out]; simp⟩
          case measure => simp [intOf]; omega
        · intro HST HCL
          go_wp2_with fail
          with_reducible refine HCL.out.mono ?_
          rintro e w3 ⟨rfl, rfl⟩
          go_wp2
          go_round
          case rel => exact ⟨k + 1, by omega, by go_num, by rw [HST.out]; congr 1; simp; omega⟩
          case measure => simp [intOf]; omega
      · have hk2 : l.take k = l := List.take_of_length_le (by have := HL.out; omega)
        rw [hk2] at hcp ⊢
        clear hk2
        go_wp2
        go_ret
        exact ⟨ret_bool (decide_eq_decide.2 (by have := Hq.out; omega)), B2.out⟩

set_option maxRecDepth 100000 in
set_option maxHeartbeats 1000000 in
theorem Reached64 {w : World} {A : Option Addr} {n c : Nat} {l : List Int} {ad : Addr} {s : Int} (hr : CI w A n l) (hc : n ≤ c) (hn : n ≤ 1000) (hcell : w.cell? ad = some (.int .u64 s)) (h0 : 0 ≤ s) (h1 : s ≤ 18446744073709551615) :
    Calls Try.prog 52 #[.slice A n c, .func (.func 64) #[] #[.pointer (some ad)]] w fun e w' => e = .returned (.bool (snd_ l && decide (2 * l.countP (bit s) > l.length))) ∧ Below w.heap.size w w' := by
  have hlt := World.block_lt_of_cell? w _ hcell
  have HR := Lib.hid hr
  have HL : Hid (l.length = n) := hr.1
  have HC := Lib.hid (MSound_calls hr hc hn)
  have Hcell := Lib.hid hcell
  have HS := Lib.hid (snd_mem (l := l))
  have HQ := Lib.hid (quo_eq (l := l))
  clear hr hcell
  revert HC HS HQ
  cases snd_ l
  · intro HC HS HQ
    rw [Bool.false_and]
    have hfn := fun W fn fs cs => run_eql_func_nil W fn fs cs
    go_enter Try.func52, Try.ntmps52
    go_wp2_with fail
    with_reducible refine HC.out.mono ?_
    rintro e w1 ⟨rfl, hb⟩
    have B1 := Lib.hid hb; clear hb
    go_wp2
    go_ret
    exact ⟨rfl, B1.out⟩
  · intro HC HS HQ
    rw [Bool.true_and]
    have hfn := fun W fn fs cs => run_eql_func_nil W fn fs cs
    go_enter Try.func52, Try.ntmps52
    go_wp2_with fail
    with_reducible refine HC.out.mono ?_
    rintro e w1 ⟨rfl, hb⟩
    have B1 := Lib.hid hb; have R1 := Lib.hid (Kd.C_below HR.out hb); clear hb
    go_wp2_with fail
    with_reducible refine (MQuorum_calls R1.out hc hn).mono ?_
    rintro e w2 ⟨rfl, hb⟩
    rw [HQ.out (by first | rfl | trivial)]
    have B2 := Lib.hid (B1.out.trans (hb.mono B1.out.size)); have R2 := Lib.hid (Kd.C_below R1.out hb); clear hb
    have cell2 : w2.cell? ad = some (.int .u64 s) := (B2.out.cell hlt).trans Hcell.out
    have C2 := Lib.hid cell2
    clear cell2
    have hL : (l.length : Int) ≤ 1000 := by have := HL.out; omega
    have hL0 : (0 : Int) ≤ (l.length : Int) / 2 + 1 := by omega
    have hL1 : (l.length : Int) / 2 + 1 ≤ 1001 := by omega
    generalize hq : (l.length : Int) / 2 + 1 = q at hL0 hL1 ⊢
    have Hq := Lib.hid hq
    clear hq hL
    go_wp2_with fail
    go_loop [5, 7, 19] (fun t _ i => ∃ k : Nat, k ≤ n ∧ i = .int .i64 k ∧ t = .int .i64 (q - ((l.take k).countP (bit s) : Nat))) (fun _ _ i => n - (intOf i).toNat)
    case atStart => exact ⟨0, Nat.zero_le _, rfl, by simp⟩
    case round =>
      obtain ⟨k, hk, rfl, rfl⟩ := hrel
      have hcp : (l.take k).countP (bit s) ≤ k := by
        have h2 := List.countP_le_length (p := bit s) (l := l.take k)
        rw [List.length_take] at h2
        omega
      by_cases hlt2 : k < n
      · obtain ⟨ax, rfl, hx⟩ := Kd.at_int R2.out k (by omega) (by omega)
        rw [Int.toNat_natCast] at hx
        obtain ⟨m, hm, hm7⟩ := HS.out (by first | rfl | trivial) (rd l k) (rd_mem l k (by have := HL.out; omega))
        have hstep : (l.take (k + 1)).countP (bit s) = (l.take k).countP (bit s) + if bit s m = true then 1 else 0 := by
          rw [take_rd l k (by have := HL.out; omega), List.countP_append, hm]; simp [List.countP_cons]
        have HST := Lib.hid hstep
        rw [hm] at hx
        clear hstep hm
        generalize (l.take k).countP (bit s) = cn at hcp HST ⊢
        have HCL := Lib.hid (meets64_calls C2.out h0 h1 hm7)
        revert HCL HST
        cases bit s m
        · intro HST HCL
          go_wp2_with fail
          with_reducible refine HCL.out.mono ?_
          rintro e w3 ⟨rfl, rfl⟩
          go_wp2
          go_round
          case rel => exact ⟨k + 1, by omega, by go_num, by rw [HST.out]; simp⟩
          case measure => simp [intOf]; omega
        · intro HST HCL
          go_wp2_with fail
          with_reducible refine HCL.out.mono ?_
          rintro e w3 ⟨rfl, rfl⟩
          go_wp2
          go_round
          case rel => exact ⟨k + 1, by omega, by go_num, by rw [HST.out]; congr 1; simp; omega⟩
          case measure => simp [intOf]; omega
      · have hk2 : l.take k = l := List.take_of_length_le (by have := HL.out; omega)
        rw [hk2] at hcp ⊢
        clear hk2
        go_wp2
        go_ret
        exact ⟨ret_bool (decide_eq_decide.2 (by have := Hq.out; omega)), B2.out⟩

set_option maxRecDepth 100000 in
set_option maxHeartbeats 1000000 in
theorem Reached65 {w : World} {A : Option Addr} {n c : Nat} {l : List Int} {ad : Addr} {s : Int} (hr : CI w A n l) (hc : n ≤ c) (hn : n ≤ 1000) (hcell : w.cell? ad = some (.int .u64 s)) (h0 : 0 ≤ s) (h1 : s ≤ 18446744073709551615) :
    Calls Try.prog 52 #[.slice A n c, .func (.func 65) #[] #[.pointer (some ad)]] w fun e w' => e = .returned (.bool (snd_ l && decide (2 * l.countP (bit s) > l.length))) ∧ Below w.heap.size w w' := by
  have hlt := World.block_lt_of_cell? w _ hcell
  have HR := Lib.hid hr
  have HL : Hid (l.length = n) := hr.1
  have HC := Lib.hid (MSound_calls hr hc hn)
  have Hcell := Lib.hid hcell
  have HS := Lib.hid (snd_mem (l := l))
  have HQ := Lib.hid (quo_eq (l := l))
  clear hr hcell
  revert HC HS HQ
  cases snd_ l
  · intro HC HS HQ
    rw [Bool.false_and]
    have hfn := fun W fn fs cs => run_eql_func_nil W fn fs cs
    go_enter Try.func52, Try.ntmps52
    go_wp2_with fail
    with_reducible refine HC.out.mono ?_
    rintro e w1 ⟨rfl, hb⟩
    have B1 := Lib.hid hb; clear hb
    go_wp2
    go_ret
    exact ⟨rfl, B1.out⟩
  · intro HC HS HQ
    rw [Bool.true_and]
    have hfn := fun W fn fs cs => run_eql_func_nil W fn fs cs
    go_enter Try.func52, Try.ntmps52
    go_wp2_with fail
    with_reducible refine HC.out.mono ?_
    rintro e w1 ⟨rfl, hb⟩
    have B1 := Lib.hid hb; have R1 := Lib.hid (Kd.C_below HR.out hb); clear hb
    go_wp2_with fail
    with_reducible refine (MQuorum_calls R1.out hc hn).mono ?_
    rintro e w2 ⟨rfl, hb⟩
    rw [HQ.out (by first | rfl | trivial)]
    have B2 := Lib.hid (B1.out.trans (hb.mono B1.out.size)); have R2 := Lib.hid (Kd.C_below R1.out hb); clear hb
    have cell2 : w2.cell? ad = some (.int .u64 s) := (B2.out.cell hlt).trans Hcell.out
    have C2 := Lib.hid cell2
    clear cell2
    have hL : (l.length : Int) ≤ 1000 := by have := HL.out; omega
    have hL0 : (0 : Int) ≤ (l.length : Int) / 2 + 1 := by omega
    have hL1 : (l.length : Int) / 2 + 1 ≤ 1001 := by omega
    generalize hq : (l.length : Int) / 2 + 1 = q at hL0 hL1 ⊢
    have Hq := Lib.hid hq
    clear hq hL
    go_wp2_with fail
    go_loop [5, 7, 19] (fun t _ i => ∃ k : Nat, k ≤ n ∧ i = .int .i64 k ∧ t = .int .i64 (q - ((l.take k).countP (bit s) : Nat))) (fun _ _ i => n - (intOf i).toNat)
    case atStart => exact ⟨0, Nat.zero_le _, rfl, by simp⟩
    case round =>
      obtain ⟨k, hk, rfl, rfl⟩ := hrel
      have hcp : (l.take k).countP (bit s) ≤ k := by
        have h2 := List.countP_le_length (p := bit s) (l := l.take k)
        rw [List.length_take] at h2
        omega
      by_cases hlt2 : k < n
      · obtain ⟨ax, rfl, hx⟩ := Kd.at_int R2.out k (by omega) (by omega)
        rw [Int.toNat_natCast] at hx
        obtain ⟨m, hm, hm7⟩ := HS.out (by first | rfl | trivial) (rd l k) (rd_mem l k (by have := HL.out; omega))
        have hstep : (l.take (k + 1)).countP (bit s) = (l.take k).countP (bit s) + if bit s m = true then 1 else 0 := by
          rw [take_rd l k (by have := HL.out; omega), List.countP_append, hm]; simp [List.countP_cons]
        have HST := Lib.hid hstep
        rw [hm] at hx
        clear hstep hm
        generalize (l.take k).countP (bit s) = cn at hcp HST ⊢
        have HCL := Lib.hid (meets65_calls C2.out h0 h1 hm7)
        revert HCL HST
        cases bit s m
        · intro HST HCL
          go_wp2_with fail
          with_reducible refine HCL.out.mono ?_
          rintro e w3 ⟨rfl, rfl⟩
          go_wp2
          go_round
          case rel => exact ⟨k + 1, by omega, by go_num, by rw [HST.out]; simp⟩
          case measure => simp [intOf]; omega
        · intro HST HCL
          go_wp2_with fail
          with_reducible refine HCL.out.mono ?_
          rintro e w3 ⟨rfl, rfl⟩
          go_wp2
          go_round
          case rel => exact ⟨k + 1, by omega, by go_num, by rw [HST.out]; congr 1; simp; omega⟩
          case measure => simp [intOf]; omega
      · have hk2 : l.take k = l := List.take_of_length_le (by have := HL.out; omega)
        rw [hk2] at hcp ⊢
        clear hk2
        go_wp2
        go_ret
        exact ⟨ret_bool (decide_eq_decide.2 (by have := Hq.out; omega)), B2.out⟩

set_option maxRecDepth 100000 in
set_option maxHeartbeats 1000000 in
theorem Reached_nil {w : World} {A : Option Addr} {n c : Nat} : Calls Try.prog 52 #[.slice A n c, .nilFunc] w fun e w' => e = .returned (.bool false) ∧ Below w.heap.size w w' := by
  have hfn := fun W => run_eql_nil_nil W
  go_enter Try.func52, Try.ntmps52
  go_wp2
  go_ret
  exact ⟨rfl, Below.refl _ _⟩
end Go.Proofs.Ytabdjehnglmlpaa
