/- MemberSteps: the walk. -/
import Derived.Test.YtabdjehnglmlpaaMs
namespace Go.Proofs.Ytabdjehnglmlpaa
open Go.RowKit Go.Proofs.YtabdjehnglmlpaaW.PrintWords
set_option linter.unusedVariables false
set_option linter.unusedSimpArgs false
open PM (snd_ quo_ near_ reach_ with_ without_ setn seven)

set_option maxRecDepth 100000 in
set_option maxHeartbeats 1000000 in
theorem MemberSteps_walk {w : World} {A : Option Addr} {n c : Nat} {l : List Int} (hr : Kd.C (Kd.int .i64) w A n l) (hc : n ≤ c) (hy : n * 8 ≤ 140737488351232) (hw : ∀ x ∈ l, (Lit.int .i64 x).wf = true) (v : Int) (hv : (Lit.int .i64 v).wf = true) :
    Calls Try.prog 4 #[.slice A n c, .int .i64 v] w fun e w' => e = .returned (.bool true) ∧ Below w.heap.size w w' := by
  have HR := Lib.hid hr
  have hnil : CI w none 0 [] := nil_reads
  have HL := Lib.hid (Light_calls (n2 := 0) (c2 := 0) hr hc hnil (Nat.le_refl _))
  clear hnil
  clear hr hw hv
  by_cases h : n ≤ 100
  · have e1 : decide (n ≤ 100 ∧ 0 ≤ 100) = true := by simp [h]
    rw [e1] at HL
    clear e1
    go_enter Try.func4, Try.ntmps4
    go_wp2_with fail
    with_reducible refine HL.out.mono ?_
    rintro e w1 ⟨rfl, hb⟩
    have B1 := Lib.hid hb; have R1 := Lib.hid (Kd.C_below HR.out hb); clear hb
    go_wp2_with fail
    with_reducible refine (With_calls R1.out hc (by omega)).mono ?_
    rintro e w2 ⟨A2, n2, c2, rfl, hc2, hC2, hb⟩
    have B2 := Lib.hid (B1.out.trans (hb.mono B1.out.size)); have R2 := Lib.hid (Kd.C_below R1.out hb); have C2 := Lib.hid hC2; clear hb hC2
    go_wp2_with fail
    with_reducible refine (rWith_calls R2.out hc (by omega)).mono ?_
    rintro e w3 ⟨A3, n3, c3, rfl, hc3, hC3, hb⟩
    have B3 := Lib.hid (B2.out.trans (hb.mono B2.out.size)); have R3 := Lib.hid (Kd.C_below R2.out hb); have C3 := Lib.hid hC3; have C2b := Lib.hid (Kd.C_below C2.out hb); clear hb hC3
    go_wp2_with fail
    with_reducible refine (Without_calls R3.out hc (by omega)).mono ?_
    rintro e w4 ⟨A4, n4, c4, rfl, hc4, hC4, hb⟩
    have B4 := Lib.hid (B3.out.trans (hb.mono B3.out.size)); have R4 := Lib.hid (Kd.C_below R3.out hb); have C4 := Lib.hid hC4; have C2c := Lib.hid (Kd.C_below C2b.out hb); have C3b := Lib.hid (Kd.C_below C3.out hb); clear hb hC4
    go_wp2_with fail
    with_reducible refine (rWithout_calls R4.out hc (by omega)).mono ?_
    rintro e w5 ⟨A5, n5, c5, rfl, hc5, hC5, hb⟩
    have B5 := Lib.hid (B4.out.trans (hb.mono B4.out.size)); have C5 := Lib.hid hC5; have C2d := Lib.hid (Kd.C_below C2c.out hb); have C3c := Lib.hid (Kd.C_below C3b.out hb); have C4b := Lib.hid (Kd.C_below C4.out hb); clear hb hC5
    have l2 : n2 ≤ 1000 := by
      have h1 := C2.out.1
      have h2 : (with_ l v).1.length ≤ 7 := by
        unfold with_
        split
        · split
          · simp
          · exact List.length_filter_le _ _
        · simp
      omega
    have l4 : n4 ≤ 1000 := by
      have h1 := C4.out.1
      have h2 : (without_ l v).1.length ≤ 7 := by
        unfold without_
        split
        · split
          · split
            · simp
            · exact List.length_filter_le _ _
          · simp
        · simp
      omega
    go_wp2_with fail
    with_reducible refine (rSame_calls C2d.out hc2 C3c.out hc3 l2).mono ?_
    rintro e w6 ⟨rfl, hb⟩
    rw [decide_eq_true (rfl : (with_ l v).1 = (with_ l v).1)]
    have B6 := Lib.hid (B5.out.trans (hb.mono B5.out.size)); have C4c := Lib.hid (Kd.C_below C4b.out hb); have C5b := Lib.hid (Kd.C_below C5.out hb); clear hb
    go_wp2_with fail
    with_reducible refine (rSame_calls C4c.out hc4 C5b.out hc5 l4).mono ?_
    rintro e w7 ⟨rfl, hb⟩
    rw [decide_eq_true (rfl : (without_ l v).1 = (without_ l v).1)]
    have B7 := Lib.hid (B6.out.trans (hb.mono B6.out.size)); clear hb
    go_wp2_with fail
    with_reducible refine (lives29_calls _).mono ?_
    rintro e w8 ⟨rfl, hb⟩
    have B8 := Lib.hid (B7.out.trans (hb.mono B7.out.size)); clear hb
    go_wp2
    go_ret
    exact ⟨rfl, B8.out⟩
  · have e1 : decide (n ≤ 100 ∧ 0 ≤ 100) = false := by simp [h]
    rw [e1] at HL
    clear e1
    go_enter Try.func4, Try.ntmps4
    go_wp2_with fail
    with_reducible refine HL.out.mono ?_
    rintro e w1 ⟨rfl, hb⟩
    have B1 := Lib.hid hb; clear hb
    go_wp2_with fail
    with_reducible refine (lives29_calls _).mono ?_
    rintro e w8 ⟨rfl, hb⟩
    have B8 := Lib.hid (B1.out.trans (hb.mono B1.out.size)); clear hb
    go_wp2
    go_ret
    exact ⟨rfl, B8.out⟩

end Go.Proofs.Ytabdjehnglmlpaa
