/- MemberSays: the walk. -/
import Derived.Test.YtabdjehnglmlpaaMu
namespace Go.Proofs.Ytabdjehnglmlpaa
open Go.RowKit Go.Proofs.YtabdjehnglmlpaaW.PrintWords
set_option linter.unusedVariables false
set_option linter.unusedSimpArgs false
open PM (snd_ quo_ near_ reach_ with_ without_ setn seven bit)

section
variable {w : World} {A A2 : Option Addr} {n c n2 c2 : Nat} {l l2 : List Int}
theorem rSound_calls (hr : CI w A n l) (hc : n ≤ c) (hn : n ≤ 1000) :
    Calls Try.prog 44 #[.slice A n c] w fun e w' => e = .returned (.bool (snd_ l)) ∧ Below w.heap.size w w' := by
  obtain rfl : l.length = n := hr.1
  exact (PM.curfewref29_Sound.calls 3000 A c l _ w hr hc (PM.rSound_f l hn 3000 (by decide))).mono fun e w' ⟨h1, h2⟩ => ⟨h1, h2.below⟩
theorem Has_calls {v : Int} (hr : CI w A n l) (hc : n ≤ c) (hn : n ≤ 1000) :
    Calls Try.prog 45 #[.slice A n c, .int .i64 v] w fun e w' => e = .returned (.bool (decide (v ∈ l))) ∧ Below w.heap.size w w' := by
  obtain rfl : l.length = n := hr.1
  exact (PM.member_Has.calls 3000 A c l v _ w hr hc (PM.Has_f l v hn 3000 (by omega))).mono fun e w' ⟨h1, h2⟩ => ⟨h1, h2.below⟩
theorem rHas_calls {v : Int} (hr : CI w A n l) (hc : n ≤ c) (hn : n ≤ 1000) :
    Calls Try.prog 46 #[.slice A n c, .int .i64 v] w fun e w' => e = .returned (.bool (decide (v ∈ l))) ∧ Below w.heap.size w w' := by
  obtain rfl : l.length = n := hr.1
  exact (PM.curfewref29_Has.calls 3000 A c l v _ w hr hc (PM.rHas_f l v hn 3000 (by omega))).mono fun e w' ⟨h1, h2⟩ => ⟨h1, h2.below⟩
theorem rQuorum_calls (hr : CI w A n l) (hc : n ≤ c) (hn : n ≤ 1000) :
    Calls Try.prog 48 #[.slice A n c] w fun e w' => e = .returned (.int .i64 (quo_ l)) ∧ Below w.heap.size w w' := by
  obtain rfl : l.length = n := hr.1
  exact (PM.curfewref29_Quorum.calls 3000 A c l _ w hr hc (PM.rQuorum_f l hn 3000 (by decide))).mono fun e w' ⟨h1, h2⟩ => ⟨h1, h2.below⟩
theorem Same_calls (hr : CI w A n l) (hc : n ≤ c) (hr2 : CI w A2 n2 l2) (hc2 : n2 ≤ c2) (hn : n ≤ 1000) :
    Calls Try.prog 49 #[.slice A n c, .slice A2 n2 c2] w fun e w' => e = .returned (.bool (decide (l = l2))) ∧ Below w.heap.size w w' := by
  obtain rfl : l.length = n := hr.1
  obtain rfl : l2.length = n2 := hr2.1
  exact (PM.member_Same.calls 3000 A c l A2 c2 l2 _ w hr hc hr2 hc2 (PM.Same_f l l2 hn 3000 (by omega))).mono fun e w' ⟨h1, h2⟩ => ⟨h1, h2.below⟩
theorem Near_calls (hr : CI w A n l) (hc : n ≤ c) (hr2 : CI w A2 n2 l2) (hc2 : n2 ≤ c2) (hn : n ≤ 1000) (hn2 : n2 ≤ 1000) :
    Calls Try.prog 50 #[.slice A n c, .slice A2 n2 c2] w fun e w' => e = .returned (.bool (near_ l l2)) ∧ Below w.heap.size w w' := by
  obtain rfl : l.length = n := hr.1
  obtain rfl : l2.length = n2 := hr2.1
  exact PM.member_Near.calls 3000 A c l A2 c2 l2 _ w hr hc hr2 hc2 (PM.Near_f l l2 hn hn2 3000 (by decide))
theorem rNear_calls (hr : CI w A n l) (hc : n ≤ c) (hr2 : CI w A2 n2 l2) (hc2 : n2 ≤ c2) (hn : n ≤ 1000) (hn2 : n2 ≤ 1000) :
    Calls Try.prog 51 #[.slice A n c, .slice A2 n2 c2] w fun e w' => e = .returned (.bool (near_ l l2)) ∧ Below w.heap.size w w' := by
  obtain rfl : l.length = n := hr.1
  obtain rfl : l2.length = n2 := hr2.1
  exact (PM.curfewref29_Near.calls 3000 A c l A2 c2 l2 _ w hr hc hr2 hc2 (PM.rNear_f l l2 hn hn2 3000 (by decide))).mono fun e w' ⟨h1, h2⟩ => ⟨h1, h2.below⟩
theorem rReached_calls (hr : CI w A n l) (hc : n ≤ c) (hr2 : CI w A2 n2 l2) (hc2 : n2 ≤ c2) (hn : n ≤ 1000) (hn2 : n2 ≤ 1000) :
    Calls Try.prog 54 #[.slice A n c, .slice A2 n2 c2] w fun e w' => e = .returned (.bool (reach_ l l2)) ∧ Below w.heap.size w w' := by
  obtain rfl : l.length = n := hr.1
  obtain rfl : l2.length = n2 := hr2.1
  exact (PM.curfewref29_Reached.calls 3000 A c l A2 c2 l2 _ w hr hc hr2 hc2 (PM.rReached_f l l2 hn hn2 3000 (by decide))).mono fun e w' ⟨h1, h2⟩ => ⟨h1, h2.below⟩
theorem within_calls {s : Int} (h0 : 0 ≤ s) (h1 : s ≤ 18446744073709551615) :
    Calls Try.prog 55 #[.int .u64 s] w fun e w' => ∃ A n c, e = .returned (.slice A n c) ∧ n ≤ c ∧ CI w' A n (seven.filter (bit s)) ∧ Below w.heap.size w w' := by
  refine (PM.curfewlaw29_within.calls 3000 s _ w (PM.within_f s h0 h1 3000 (by decide))).mono ?_
  rintro e w' ⟨u, rfl, hR, hb⟩
  obtain ⟨A, c, rfl, hc, hC⟩ := Kd.R_reads hR
  exact ⟨A, _, c, rfl, hc, hC, hb⟩
end

theorem reach_bits (l : List Int) (s : Int) : reach_ l (seven.filter (bit s)) = (snd_ l && decide (2 * l.countP (bit s) > l.length)) := by
  unfold PM.reach_
  cases h : snd_ l
  · rfl
  · have e : l.countP (fun x => decide (x ∈ seven.filter (bit s))) = l.countP (bit s) := by
      apply List.countP_congr
      intro x hx
      obtain ⟨m, rfl, hm⟩ := snd_mem h x hx
      rw [decide_eq_true_eq, List.mem_filter, PM.mem_seven_iff]
      constructor
      · intro h2; exact h2.2
      · intro h2; exact ⟨by omega, h2⟩
    rw [e]
theorem u64_wf {x : Int} (h : (Lit.int .u64 x).wf = true) : 0 ≤ x ∧ x ≤ 18446744073709551615 := by
  simp only [Lit.wf, Bool.and_eq_true, decide_eq_true_eq] at h
  exact ⟨h.1, by have h2 := h.2; simpa [IntKind.max, IntKind.signed, IntKind.bits] using h2⟩

set_option maxRecDepth 100000 in
set_option maxHeartbeats 2000000 in
theorem MemberSays_walk {w : World} {A : Option Addr} {n c : Nat} {l : List Int} (hr : Kd.C (Kd.int .i64) w A n l) (hc : n ≤ c) (hy : n * 8 ≤ 140737488351232) (hw : ∀ x ∈ l, (Lit.int .i64 x).wf = true)
    {A2 : Option Addr} {n2 c2 : Nat} {l2 : List Int} (hr2 : Kd.C (Kd.int .i64) w A2 n2 l2) (hc2 : n2 ≤ c2) (hy2 : n2 * 8 ≤ 140737488351232) (hw2 : ∀ x ∈ l2, (Lit.int .i64 x).wf = true)
    (v : Int) (hv : (Lit.int .i64 v).wf = true) (s : Int) (hs : (Lit.int .u64 s).wf = true) :
    Calls Try.prog 6 #[.slice A n c, .slice A2 n2 c2, .int .i64 v, .int .u64 s] w fun e w' => e = .returned (.bool true) ∧ Below w.heap.size w w' := by
  obtain ⟨s0, s1⟩ := u64_wf hs
  have b0 := (Below.refl w.heap.size w).alloc (Nat.le_refl _) (.cells #[.int .u64 s] 26)
  have k0 : (w.alloc (.cells #[.int .u64 s] 26)).cell? ⟨w.heap.size, 0, none⟩ = some (.int .u64 s) := (blk_cell (by simpa using heap_alloc_new w (.cells #[.int .u64 s] 26)) 0).trans rfl
  have R0 := Lib.hid (Kd.C_below hr b0)
  have T0 := Lib.hid (Kd.C_below hr2 b0)
  have B0 := Lib.hid b0
  have K0 := Lib.hid k0
  clear hr hr2 b0 k0 hw hw2 hv hs
  have hz0 : w.heap.size < (w.alloc (.cells #[.int .u64 s] 26)).heap.size := by simp
  by_cases h : n ≤ 100 ∧ n2 ≤ 100
  · obtain ⟨h1, h2⟩ := h
    have HL := Lib.hid (Light_calls R0.out hc T0.out hc2)
    rw [decide_eq_true (show n ≤ 100 ∧ n2 ≤ 100 from ⟨h1, h2⟩)] at HL
    go_enter Try.func6, Try.ntmps6
    go_wp2_with fail
    with_reducible refine HL.out.mono ?_
    rintro e w1 ⟨rfl, hb⟩
    have B1 := Lib.hid (B0.out.trans (hb.mono B0.out.size)); have R1 := Lib.hid (Kd.C_below R0.out hb); have T1 := Lib.hid (Kd.C_below T0.out hb); have K1 := Lib.hid ((hb.cell (p := ⟨w.heap.size, 0, none⟩) hz0).trans K0.out); have z1 : w.heap.size < w1.heap.size := Nat.lt_of_lt_of_le hz0 hb.size; clear hb R0 T0 K0 HL hz0
    go_wp2_with fail
    with_reducible refine (MSound_calls R1.out hc (by omega)).mono ?_
    rintro e w2 ⟨rfl, hb⟩
    have B2 := Lib.hid (B1.out.trans (hb.mono B1.out.size)); have R2 := Lib.hid (Kd.C_below R1.out hb); have T2 := Lib.hid (Kd.C_below T1.out hb); have K2 := Lib.hid ((hb.cell (p := ⟨w.heap.size, 0, none⟩) z1).trans K1.out); have z2 : w.heap.size < w2.heap.size := Nat.lt_of_lt_of_le z1 hb.size; clear hb R1 T1 K1 z1
    go_wp2_with fail
    with_reducible refine (rSound_calls R2.out hc (by omega)).mono ?_
    rintro e w3 ⟨rfl, hb⟩
    have B3 := Lib.hid (B2.out.trans (hb.mono B2.out.size)); have R3 := Lib.hid (Kd.C_below R2.out hb); have T3 := Lib.hid (Kd.C_below T2.out hb); have K3 := Lib.hid ((hb.cell (p := ⟨w.heap.size, 0, none⟩) z2).trans K2.out); have z3 : w.heap.size < w3.heap.size := Nat.lt_of_lt_of_le z2 hb.size; clear hb R2 T2 K2 z2
    go_wp2_with fail
    with_reducible refine (Has_calls R3.out hc (by omega)).mono ?_
    rintro e w4 ⟨rfl, hb⟩
    have B4 := Lib.hid (B3.out.trans (hb.mono B3.out.size)); have R4 := Lib.hid (Kd.C_below R3.out hb); have T4 := Lib.hid (Kd.C_below T3.out hb); have K4 := Lib.hid ((hb.cell (p := ⟨w.heap.size, 0, none⟩) z3).trans K3.out); have z4 : w.heap.size < w4.heap.size := Nat.lt_of_lt_of_le z3 hb.size; clear hb R3 T3 K3 z3
    go_wp2_with fail
    with_reducible refine (rHas_calls R4.out hc (by omega)).mono ?_
    rintro e w5 ⟨rfl, hb⟩
    have B5 := Lib.hid (B4.out.trans (hb.mono B4.out.size)); have R5 := Lib.hid (Kd.C_below R4.out hb); have T5 := Lib.hid (Kd.C_below T4.out hb); have K5 := Lib.hid ((hb.cell (p := ⟨w.heap.size, 0, none⟩) z4).trans K4.out); have z5 : w.heap.size < w5.heap.size := Nat.lt_of_lt_of_le z4 hb.size; clear hb R4 T4 K4 z4
    go_wp2_with fail
    with_reducible refine (MQuorum_calls R5.out hc (by omega)).mono ?_
    rintro e w6 ⟨rfl, hb⟩
    have B6 := Lib.hid (B5.out.trans (hb.mono B5.out.size)); have R6 := Lib.hid (Kd.C_below R5.out hb); have T6 := Lib.hid (Kd.C_below T5.out hb); have K6 := Lib.hid ((hb.cell (p := ⟨w.heap.size, 0, none⟩) z5).trans K5.out); have z6 : w.heap.size < w6.heap.size := Nat.lt_of_lt_of_le z5 hb.size; clear hb R5 T5 K5 z5
    go_wp2_with fail
    with_reducible refine (rQuorum_calls R6.out hc (by omega)).mono ?_
    rintro e w7 ⟨rfl, hb⟩
    have B7 := Lib.hid (B6.out.trans (hb.mono B6.out.size)); have R7 := Lib.hid (Kd.C_below R6.out hb); have T7 := Lib.hid (Kd.C_below T6.out hb); have K7 := Lib.hid ((hb.cell (p := ⟨w.heap.size, 0, none⟩) z6).trans K6.out); have z7 : w.heap.size < w7.heap.size := Nat.lt_of_lt_of_le z6 hb.size; clear hb R6 T6 K6 z6
    go_wp2_with fail
    with_reducible refine (Same_calls R7.out hc T7.out hc2 (by omega)).mono ?_
    rintro e w8 ⟨rfl, hb⟩
    have B8 := Lib.hid (B7.out.trans (hb.mono B7.out.size)); have R8 := Lib.hid (Kd.C_below R7.out hb); have T8 := Lib.hid (Kd.C_below T7.out hb); have K8 := Lib.hid ((hb.cell (p := ⟨w.heap.size, 0, none⟩) z7).trans K7.out); have z8 : w.heap.size < w8.heap.size := Nat.lt_of_lt_of_le z7 hb.size; clear hb R7 T7 K7 z7
    go_wp2_with fail
    with_reducible refine (rSame_calls R8.out hc T8.out hc2 (by omega)).mono ?_
    rintro e w9 ⟨rfl, hb⟩
    have B9 := Lib.hid (B8.out.trans (hb.mono B8.out.size)); have R9 := Lib.hid (Kd.C_below R8.out hb); have T9 := Lib.hid (Kd.C_below T8.out hb); have K9 := Lib.hid ((hb.cell (p := ⟨w.heap.size, 0, none⟩) z8).trans K8.out); have z9 : w.heap.size < w9.heap.size := Nat.lt_of_lt_of_le z8 hb.size; clear hb R8 T8 K8 z8
    go_wp2_with fail
    with_reducible refine (Near_calls R9.out hc T9.out hc2 (by omega) (by omega)).mono ?_
    rintro e wa ⟨rfl, hb⟩
    have Ba := Lib.hid (B9.out.trans (hb.mono B9.out.size)); have Ra := Lib.hid (Kd.C_below R9.out hb); have Ta := Lib.hid (Kd.C_below T9.out hb); have Ka := Lib.hid ((hb.cell (p := ⟨w.heap.size, 0, none⟩) z9).trans K9.out); have za : w.heap.size < wa.heap.size := Nat.lt_of_lt_of_le z9 hb.size; clear hb R9 T9 K9 z9
    go_wp2_with fail
    with_reducible refine (rNear_calls Ra.out hc Ta.out hc2 (by omega) (by omega)).mono ?_
    rintro e wb ⟨rfl, hb⟩
    have Bb := Lib.hid (Ba.out.trans (hb.mono Ba.out.size)); have Rb := Lib.hid (Kd.C_below Ra.out hb); have kb : wb.cell? ⟨w.heap.size, 0, none⟩ = some (.int .u64 s) := (hb.cell (p := ⟨w.heap.size, 0, none⟩) za).trans Ka.out; have zb : w.heap.size < wb.heap.size := Nat.lt_of_lt_of_le za hb.size; have Kb := Lib.hid kb; clear hb Ra Ta Ka za B0 B1 B2 B3 B4 B5 B6 B7 B8 B9 Ba kb
    go_wp2_with fail
    with_reducible refine (Reached53 Rb.out hc (by omega) Kb.out s0 s1).mono ?_
    rintro e wc ⟨rfl, hb⟩
    have Bc := Lib.hid (Bb.out.trans (hb.mono Bb.out.size)); have Rc := Lib.hid (Kd.C_below Rb.out hb); have kc : wc.cell? ⟨w.heap.size, 0, none⟩ = some (.int .u64 s) := (hb.cell (p := ⟨w.heap.size, 0, none⟩) zb).trans Kb.out; clear hb Rb Bb Kb
    go_wp2_with fail
    with_reducible refine (within_calls s0 s1).mono ?_
    rintro e wd ⟨Ad, nd, cd, rfl, hcd, hCd, hb⟩
    have Bd := Lib.hid (Bc.out.trans (hb.mono Bc.out.size)); have Rd := Lib.hid (Kd.C_below Rc.out hb); have Cd := Lib.hid hCd; have hnd : nd ≤ 1000 := by
      have h3 := hCd.1
      have h4 : (seven.filter (bit s)).length ≤ 7 := List.length_filter_le _ _
      omega
    clear hb hCd Rc Bc kc
    go_wp2_with fail
    with_reducible refine (rReached_calls Rd.out hc Cd.out hcd (by omega) hnd).mono ?_
    rintro e we ⟨rfl, hb⟩
    rw [reach_bits]
    have Be := Lib.hid (Bd.out.trans (hb.mono Bd.out.size)); clear hb Rd Cd Bd
    go_wp2_with fail
    with_reducible refine (Reached_nil).mono ?_
    rintro e wf ⟨rfl, hb⟩
    have Bf := Lib.hid (Be.out.trans (hb.mono Be.out.size)); clear hb Be
    go_wp2_with fail
    with_reducible refine (lives29_calls _).mono ?_
    rintro e wg ⟨rfl, hb⟩
    have Bg := Lib.hid (Bf.out.trans (hb.mono Bf.out.size)); clear hb Bf
    go_wp2
    go_ret
    exact ⟨rfl, Bg.out⟩
  · have HL := Lib.hid (Light_calls R0.out hc T0.out hc2)
    rw [decide_eq_false h] at HL
    go_enter Try.func6, Try.ntmps6
    go_wp2_with fail
    with_reducible refine HL.out.mono ?_
    rintro e w1 ⟨rfl, hb⟩
    have B1 := Lib.hid (B0.out.trans (hb.mono B0.out.size)); clear hb
    go_wp2_with fail
    with_reducible refine (lives29_calls _).mono ?_
    rintro e w8 ⟨rfl, hb⟩
    have B8 := Lib.hid (B1.out.trans (hb.mono B1.out.size)); clear hb
    go_wp2
    go_ret
    exact ⟨rfl, B8.out⟩

end Go.Proofs.Ytabdjehnglmlpaa
