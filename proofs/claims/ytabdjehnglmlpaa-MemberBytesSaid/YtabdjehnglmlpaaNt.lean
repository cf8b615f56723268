/- MemberBytes: the walk. -/
import Derived.Test.YtabdjehnglmlpaaNr
import Derived.Test.YtabdjehnglmlpaaNq
import Derived.Test.YtabdjehnglmlpaaMv
namespace Go.Proofs.Ytabdjehnglmlpaa
open Go.RowKit Go.Proofs.YtabdjehnglmlpaaW.PrintWords
set_option linter.unusedVariables false
set_option linter.unusedSimpArgs false
open PM (snd_ setn seven bit rng)

theorem mread_len (xs : List Int) : (mread xs).1.length ≤ 7 := by
  unfold mread; split
  · simp
  · exact List.length_filter_le _ _
theorem mread_row {l : List Int} (h : snd_ l = true) : mread (encN (setn l) 0) = (l, true) := by
  have hs := PM.setn_lt l
  have hb := rNum_back (n := (setn l : Int)) (most := 127) (rest := []) (bad := false) (by omega) (by omega) (by omega)
  rw [List.append_nil] at hb
  unfold PM.snd_ at h
  obtain ⟨h1, h2⟩ := of_decide_eq_true h
  have hz : setn l ≠ 0 := by
    intro hz
    have he : PM.rowOf l = [] := by
      rw [← PM.of_set, hz]; rfl
    rw [he] at h2
    exact h1 h2
  unfold mread
  rw [hb, if_neg (by simp [rEnd]; omega)]
  rw [PM.of_set, ← h2]

theorem Cdrew {w : World} {α : Type} {d : Kd α} {A : Option Addr} {n : Nat} {xs : List α} (h : Kd.C d w A n xs) : Kd.C d w.drew A n xs := Kd.C_below h (Below.refl _ w).drew

/-- The values laid out before a region goes on. -/
theorem wpAny_norm {P : Program} {md : Region.Mode} {ops : Array Oper} {Q : Exit → Act → World → Prop} {fuel : Nat} {listed : Array Bool} {a : Act} {w : World}
    (h : ∀ K : Act → World → Prop, (∀ a w, wpAny P md ops Q fuel listed a w → K a w) → K a w) : wpAny P md ops Q fuel listed a w := h _ (fun _ _ h => h)

set_option maxRecDepth 100000 in
set_option maxHeartbeats 8000000 in
theorem MemberBytes_walk {w : World} {A : Option Addr} {n c : Nat} {l : List Int} (hr : Kd.C (Kd.int .i64) w A n l) (hc : n ≤ c) (hy : n * 8 ≤ 140737488351232) (hw : ∀ x ∈ l, (Lit.int .i64 x).wf = true)
    {A2 : Option Addr} {n2 c2 : Nat} {xs : List Int} (hr2 : Kd.C (Kd.int .u8) w A2 n2 xs) (hc2 : n2 ≤ c2) (hy2 : n2 * 1 ≤ 140737488351232) (hw2 : ∀ x ∈ xs, (Lit.int .u8 x).wf = true) :
    Calls Try.prog 15 #[.slice A n c, .slice A2 n2 c2] w fun e w' => e = .returned (.bool true) ∧ Below w.heap.size w w' := by
  have HX := Lib.hid (byt_of_wf hw2)
  have R0 := Lib.hid hr
  have T0 := Lib.hid hr2
  clear hr hr2 hw hw2
  have HL := Lib.hid (Light_calls R0.out hc (n2 := 0) (c2 := 0) (nil_reads (w := w) (d := Kd.int .i64)) (Nat.le_refl 0))
  by_cases h : n ≤ 100
  · rw [decide_eq_true (show n ≤ 100 ∧ 0 ≤ 100 from ⟨h, by decide⟩)] at HL
    by_cases h2 : 1000 < n2
    · go_enter Try.func15, Try.ntmps15
      go_wp2_with fail
      with_reducible refine HL.out.mono ?_
      rintro e w1 ⟨rfl, hb⟩
      have B1 := Lib.hid hb; clear hb
      go_wp2_with fail
      with_reducible refine (lives29_calls _).mono ?_
      rintro e w8 ⟨rfl, hb⟩
      have B8 := Lib.hid (B1.out.trans (hb.mono B1.out.size)); clear hb
      go_wp2
      go_ret
      exact ⟨rfl, B8.out⟩
    · cases hs : snd_ l
      · have hmb : mbytes l = ([], 2) := by unfold mbytes; rw [hs]; rfl
        have HMB : Hid (∀ W, CI W A n l → Calls Try.prog 88 #[.slice A n c] W fun e w' => ∃ A3 n3 c3, e = .returned (.tuple #[.slice A3 n3 c3, .int .i64 2]) ∧ n3 ≤ c3 ∧ Kd.C (Kd.int .u8) w' A3 n3 ([] : List Int) ∧ Below W.heap.size W w') := fun W h => by have := MBytes_calls h hc (by omega); rw [hmb] at this; exact this
        have HS : Hid (∀ W, CI W A n l → Calls Try.prog 44 #[.slice A n c] W fun e w' => e = .returned (.bool false) ∧ Below W.heap.size W w') := fun W h => by have := rSound_calls h hc (by omega); rw [hs] at this; exact this
        clear hs hmb
        go_enter Try.func15, Try.ntmps15
        go_wp2_with fail
        with_reducible refine HL.out.mono ?_
        rintro e w1 ⟨rfl, hb⟩
        have B1 := Lib.hid hb; have R1 := Lib.hid (Kd.C_below R0.out hb); have T1 := Lib.hid (Kd.C_below T0.out hb); clear hb R0 T0 HL
        go_wp2_with fail
        with_reducible refine (HMB.out _ R1.out).mono ?_
        rintro e w2 ⟨A3, n3, c3, rfl, hc3, hC3, hb⟩
        obtain rfl : n3 = 0 := hC3.1.symm
        have B2 := Lib.hid (B1.out.trans (hb.mono B1.out.size)); have R2 := Lib.hid (Kd.C_below R1.out hb); have T2 := Lib.hid (Kd.C_below T1.out hb); clear hb R1 T1 HMB hC3 B1
        go_wp2_with fail
        with_reducible refine (HS.out _ R2.out).mono ?_
        rintro e w3 ⟨rfl, hb⟩
        have B3 := Lib.hid (B2.out.trans (hb.mono B2.out.size)); have R3 := Lib.hid (Kd.C_below R2.out hb); have T3 := Lib.hid (Kd.C_below T2.out hb); clear hb R2 T2 B2
        go_wp2_with fail
        with_reducible refine (HS.out _ R3.out).mono ?_
        rintro e w4 ⟨rfl, hb⟩
        have B4 := Lib.hid (B3.out.trans (hb.mono B3.out.size)); have T4 := Lib.hid (Kd.C_below T3.out hb); clear hb R3 T3 B3
        go_wp2_with fail
        with_reducible refine (MRead_calls T4.out hc2 HX.out).mono ?_
        rintro e wp ⟨Ap, np, cp, rfl, hcp, hCp, hb⟩
        have Bp := Lib.hid (B4.out.trans (hb.mono B4.out.size)); have Tp := Lib.hid (Kd.C_below T4.out hb); have Cp := Lib.hid hCp; clear hb hCp
        go_wp2_with fail
        with_reducible refine (rRead_calls Tp.out hc2 HX.out).mono ?_
        rintro e wq ⟨Aq, nq, cq, rfl, hcq, hCq, hb⟩
        have Bq := Lib.hid (Bp.out.trans (hb.mono Bp.out.size)); have Cpq := Lib.hid (Kd.C_below Cp.out hb); have Cq := Lib.hid hCq; have hnp : np ≤ 1000 := by have h1 := Cp.out.1; have h2 := mread_len xs; omega
        clear hb hCq Bp Cp Tp
        go_wp2_with fail
        with_reducible refine (rSame_calls Cpq.out hcp Cq.out hcq hnp).mono ?_
        rintro e wr ⟨rfl, hb⟩
        rw [decide_eq_true (rfl : (mread xs).1 = (mread xs).1)]
        have Br := Lib.hid (Bq.out.trans (hb.mono Bq.out.size)); clear hb Bq Cpq Cq
        go_wp2_with fail
        with_reducible refine (lives29_calls _).mono ?_
        rintro e ws ⟨rfl, hb⟩
        have Bs := Lib.hid (Br.out.trans (hb.mono Br.out.size)); clear hb Br
        go_wp2
        go_ret
        exact ⟨rfl, Bs.out⟩
      · have hmb : mbytes l = (encN (setn l) 0, 0) := by unfold mbytes; rw [hs]; rfl
        have HMB : Hid (∀ W, CI W A n l → Calls Try.prog 88 #[.slice A n c] W fun e w' => ∃ A3 n3 c3, e = .returned (.tuple #[.slice A3 n3 c3, .int .i64 0]) ∧ n3 ≤ c3 ∧ Kd.C (Kd.int .u8) w' A3 n3 (encN (setn l) 0) ∧ Below W.heap.size W w') := fun W h => by have := MBytes_calls h hc (by omega); rw [hmb] at this; exact this
        have HS : Hid (∀ W, CI W A n l → Calls Try.prog 44 #[.slice A n c] W fun e w' => e = .returned (.bool true) ∧ Below W.heap.size W w') := fun W h => by have := rSound_calls h hc (by omega); rw [hs] at this; exact this
        have HMR : Hid (∀ (W : World) (A3 : Option Addr) (n3 c3 : Nat), Kd.C (Kd.int .u8) W A3 n3 (encN (setn l) 0) → n3 ≤ c3 → Calls Try.prog 89 #[.slice A3 n3 c3] W fun e w' => ∃ A n c, e = .returned (.tuple #[.slice A n c, .bool true]) ∧ n ≤ c ∧ CI w' A n l ∧ Below W.heap.size W w') := fun W A3 n3 c3 h h' => by have := MRead_calls h h' (encN_byt (by decide) (by decide)); rw [mread_row hs] at this; exact this
        have HRB : Hid (∀ (W : World), CI W A n l → Calls Try.prog 90 #[.slice A n c] W fun e w' => ∃ A6 n6 c6, e = .returned (.slice A6 n6 c6) ∧ Kd.C (Kd.int .u8) w' A6 n6 (encN (setn l) 0) ∧ Below W.heap.size W w') := fun W h => (rBytes_calls h hc (by omega)).mono fun e w' ⟨v, h1, h2, h3⟩ => by obtain ⟨A6, n6, c6, rfl, _, h5⟩ := h2.any; exact ⟨A6, n6, c6, h1, h5, h3⟩
        have HRS : Hid (∀ (W : World) (A5 : Option Addr) (n5 c5 : Nat), CI W A5 n5 l → n5 ≤ c5 → CI W A n l → Calls Try.prog 35 #[.slice A5 n5 c5, .slice A n c] W fun e w' => e = .returned (.bool true) ∧ Below W.heap.size W w') := fun W A5 n5 c5 h1 h2 h3 => by have := rSame_calls h1 h2 h3 hc (by have e1 := h1.1; have e2 := h3.1; omega); rw [decide_eq_true (rfl : l = l)] at this; exact this
        clear hs hmb
        revert HMB HMR HRB
        generalize encN (setn l) 0 = E
        intro HMB HMR HRB
        go_enter Try.func15, Try.ntmps15
        go_wp2_with fail
        with_reducible refine HL.out.mono ?_
        rintro e w1 ⟨rfl, hb⟩
        have B1 := Lib.hid hb; have R1 := Lib.hid (Kd.C_below R0.out hb); have T1 := Lib.hid (Kd.C_below T0.out hb); clear hb R0 T0 HL
        go_wp2_with fail
        with_reducible refine (HMB.out _ R1.out).mono ?_
        rintro e w2 ⟨A3, n3, c3, rfl, hc3, hC3, hb⟩
        have C2 := Lib.hid hC3
        have B2 := Lib.hid (B1.out.trans (hb.mono B1.out.size)); have R2 := Lib.hid (Kd.C_below R1.out hb); have T2 := Lib.hid (Kd.C_below T1.out hb); clear hb R1 T1 HMB hC3 B1
        go_wp2_with fail
        with_reducible refine (HS.out _ R2.out).mono ?_
        rintro e w3 ⟨rfl, hb⟩
        have B3 := Lib.hid (B2.out.trans (hb.mono B2.out.size)); have R3 := Lib.hid (Kd.C_below R2.out hb); have T3 := Lib.hid (Kd.C_below T2.out hb); have C3 := Lib.hid (Kd.C_below C2.out hb); clear hb R2 T2 B2 C2
        go_wp2_with fail
        with_reducible refine (HS.out _ R3.out).mono ?_
        rintro e w4 ⟨rfl, hb⟩
        have B4 := Lib.hid (B3.out.trans (hb.mono B3.out.size)); have T4 := Lib.hid (Kd.C_below T3.out hb); have R4 := Lib.hid (Kd.C_below R3.out hb); have C4 := Lib.hid (Kd.C_below C3.out hb); clear hb R3 T3 B3 C3 HS
        go_wp2_with fail
        with_reducible refine (HMR.out _ _ _ _ C4.out hc3).mono ?_
        rintro e w5 ⟨A5, n5, c5, rfl, hc5, hC5, hb⟩
        have D5 := Lib.hid (Cdrew hC5)
        have B5 := Lib.hid (B4.out.trans (hb.mono B4.out.size)).drew; have T5 := Lib.hid (Cdrew (Kd.C_below T4.out hb)); have R5 := Lib.hid (Cdrew (Kd.C_below R4.out hb)); have C5 := Lib.hid (Cdrew (Kd.C_below C4.out hb)); clear hb R4 T4 B4 C4 HMR hC5
        go_upto_region 8 with fail
        go_cut [65] (fun s65 wx => s65 = .bool false ∧ Hid (Kd.C (Kd.int .u8) wx A2 n2 xs) ∧ Hid (Below w.heap.size w wx))
        case first =>
          obtain ⟨SE, hSE⟩ : ∃ s, strOfNums E = s := ⟨_, rfl⟩
          have HSE := Lib.hid hSE
          clear hSE
          have hcv0 := conv_str (c := c3) C5.out
          rw [HSE.out] at hcv0
          refine wp_region_any (by kernel_rfl) ?_
          try (change wpAny _ _ _ _ _ _ _ (World.drew _))
          refine wpAny_take (i := 0) (v := ?_) rfl (by kernel_rfl) (by kernel_rfl) (by kernel_rfl) (fun _ _ _ h => h) (Or.inl ⟨by rfl, ?_⟩) ?_
          rotate_left
          · intro w; go_simp; try with_reducible rfl
          refine wpAny_take (i := 1) (v := ?_) rfl (by kernel_rfl) (by kernel_rfl) (by kernel_rfl) (fun _ _ _ h => h) (Or.inl ⟨by rfl, ?_⟩) ?_
          rotate_left
          · intro w; go_simp; try with_reducible rfl
          refine wpAny_take (i := 2) (v := ?_) rfl (by kernel_rfl) (by kernel_rfl) (by kernel_rfl) (fun _ _ _ h => h) (Or.inl ⟨by rfl, ?_⟩) ?_
          rotate_left
          · intro w; go_simp; try with_reducible rfl
          refine wpAny_take (i := 3) (v := ?_) rfl (by kernel_rfl) (by kernel_rfl) (by kernel_rfl) (fun _ _ _ h => h) (Or.inl ⟨by rfl, ?_⟩) ?_
          rotate_left
          · intro w; go_simp; try with_reducible rfl
          refine wpAny_take (i := 5) (v := ?_) rfl (by kernel_rfl) (by kernel_rfl) (by kernel_rfl) (fun _ _ _ h => h) (Or.inl ⟨by rfl, ?_⟩) ?_
          rotate_left
          · intro w; go_simp; try with_reducible rfl
          refine wpAny_ready (rs := [4, 6]) (by kernel_rfl) (by simp) ?_
          refine AllReady.cons rfl (fun K hK => ?_) (AllReady.cons rfl (fun K hK => ?_) AllReady.nil)
          case' refine_1 =>
            go_simp
            refine hK _ _ ?_
            clear hK K
            refine wpAny_ready (rs := [6]) (by kernel_rfl) (by simp) ?_
            refine AllReady.cons rfl (fun K hK => ?_) AllReady.nil
            go_simp
            go_wp2_with fail
            (with_reducible refine (HRB.out _ R5.out).mono ?_)
            rintro e w6 ⟨A6, n6, c6, rfl, hC6, hb⟩
            have hcv1 := conv_str (c := c6) hC6
            rw [HSE.out] at hcv1
            have hcv2 := conv_str (c := c3) (Kd.C_below C5.out hb)
            rw [HSE.out] at hcv2
            have D6 := Lib.hid (Kd.C_below D5.out hb); have R6 := Lib.hid (Kd.C_below R5.out hb); have T6 := Lib.hid (Kd.C_below T5.out hb); have B6 := Lib.hid (B5.out.trans (hb.mono B5.out.size)); clear hC6 hb
            go_wp2_with fail
            refine wpAny_ready (rs := [7]) (by kernel_rfl) (by simp) ?_
            refine AllReady.cons rfl (fun K hK => ?_) AllReady.nil
            go_simp
            refine hK _ _ ?_
            clear hK K

          case' refine_2 =>
            go_simp
            go_wp2_with fail
            (with_reducible refine (HRB.out _ R5.out).mono ?_)
            rintro e w6 ⟨A6, n6, c6, rfl, hC6, hb⟩
            have hcv1 := conv_str (c := c6) hC6
            rw [HSE.out] at hcv1
            have hcv2 := conv_str (c := c3) (Kd.C_below C5.out hb)
            rw [HSE.out] at hcv2
            have D6 := Lib.hid (Kd.C_below D5.out hb); have R6 := Lib.hid (Kd.C_below R5.out hb); have T6 := Lib.hid (Kd.C_below T5.out hb); have B6 := Lib.hid (B5.out.trans (hb.mono B5.out.size)); clear hC6 hb
            go_wp2_with fail
            refine wpAny_ready (rs := [4, 7]) (by kernel_rfl) (by simp) ?_
            refine AllReady.cons rfl (fun K hK => ?_) (AllReady.cons rfl (fun K hK => ?_) AllReady.nil)
          case' refine_2.refine_1 =>
            go_simp
            refine hK _ _ ?_
            clear hK K
            refine wpAny_ready (rs := [7]) (by kernel_rfl) (by simp) ?_
            refine AllReady.cons rfl (fun K hK => ?_) AllReady.nil
            go_simp
            refine hK _ _ ?_
            clear hK K

          case' refine_2.refine_2 =>
            go_simp
            refine hK _ _ ?_
            clear hK K
            refine wpAny_ready (rs := [4]) (by kernel_rfl) (by simp) ?_
            refine AllReady.cons rfl (fun K hK => ?_) AllReady.nil
            go_simp
            refine hK _ _ ?_
            clear hK K

          all_goals
            refine wpAny_take (i := 8) (v := ?_) rfl (by kernel_rfl) (by kernel_rfl) (by kernel_rfl) (fun _ _ _ h => h) (Or.inl ⟨by rfl, ?_⟩) ?_
            rotate_left
            · intro w; go_simp; try with_reducible rfl
            refine wpAny_take (i := 9) (v := ?_) rfl (by kernel_rfl) (by kernel_rfl) (by kernel_rfl) (fun _ _ _ h => h) (Or.inl ⟨by rfl, ?_⟩) ?_
            rotate_left
            · intro w; go_simp; try with_reducible rfl
            refine wpAny_take (i := 10) (v := ?_) rfl (by kernel_rfl) (by kernel_rfl) (by kernel_rfl) (fun _ _ _ h => h) (Or.inl ⟨by rfl, ?_⟩) ?_
            rotate_left
            · intro w; go_simp; try with_reducible rfl
            refine wpAny_take (i := 11) (v := ?_) rfl (by kernel_rfl) (by kernel_rfl) (by kernel_rfl) (fun _ _ _ h => h) (Or.inl ⟨by rfl, ?_⟩) ?_
            rotate_left
            · intro w; go_simp; try with_reducible rfl
            refine wpAny_norm (fun K hK => ?_)
            go_simp
            refine hK _ _ ?_
            clear hK K
            refine wpAny_take (i := 12) (v := ?_) rfl (by kernel_rfl) (by kernel_rfl) (by kernel_rfl) (fun _ _ _ h => h) (Or.inl ⟨by rfl, ?_⟩) ?_
            rotate_left
            · intro w; go_simp; try with_reducible rfl
            refine wpAny_take (i := 13) (v := ?_) rfl (by kernel_rfl) (by kernel_rfl) (by kernel_rfl) (fun _ _ _ h => h) (Or.inl ⟨by rfl, ?_⟩) ?_
            rotate_left
            · intro w; go_simp; try with_reducible rfl
            refine wpAny_take (i := 14) (v := ?_) rfl (by kernel_rfl) (by kernel_rfl) (by kernel_rfl) (fun _ _ _ h => h) (Or.inl ⟨by rfl, ?_⟩) ?_
            rotate_left
            · intro w; go_simp; try with_reducible rfl
            refine wpAny_norm (fun K hK => ?_)
            go_simp
            refine hK _ _ ?_
            clear hK K
            refine wpAny_take (i := 15) (v := ?_) rfl (by kernel_rfl) (by kernel_rfl) (by kernel_rfl) (fun _ _ _ h => h) (Or.inl ⟨by rfl, ?_⟩) ?_
            rotate_left
            · intro w; go_simp; try with_reducible rfl
            refine wpAny_take (i := 16) (v := ?_) rfl (by kernel_rfl) (by kernel_rfl) (by kernel_rfl) (fun _ _ _ h => h) (Or.inl ⟨by rfl, ?_⟩) ?_
            rotate_left
            · intro w; go_simp; try with_reducible rfl
            refine wpAny_ready (rs := [17]) (by kernel_rfl) (by simp) ?_
            refine AllReady.cons rfl (fun K hK => ?_) AllReady.nil
            go_simp
            go_wp2_with fail
            (with_reducible refine (HRS.out _ _ _ _ D6.out hc5 R6.out).mono ?_)
            rintro e w7 ⟨rfl, hb⟩
            have T7 := Lib.hid (Kd.C_below T6.out hb); have B7 := Lib.hid (B6.out.trans (hb.mono B6.out.size)); clear hb
            go_wp2_with fail
            refine wpAny_take (i := 18) (v := ?_) rfl (by kernel_rfl) (by kernel_rfl) (by kernel_rfl) (fun _ _ _ h => h) (Or.inl ⟨by rfl, ?_⟩) ?_
            rotate_left
            · intro w; go_simp; try with_reducible rfl
            refine wpAny_take (i := 19) (v := ?_) rfl (by kernel_rfl) (by kernel_rfl) (by kernel_rfl) (fun _ _ _ h => h) (Or.inl ⟨by rfl, ?_⟩) ?_
            rotate_left
            · intro w; go_simp; try with_reducible rfl
            refine wpAny_done (by kernel_rfl) ?_ _
            go_wp2_with fail
            go_meet
            exact ⟨rfl, T7, B7⟩
        case rest =>
          clear R5 T5 B5 C5 D5
          obtain ⟨rfl, T7, B7⟩ := hcut
          go_wp2_with fail
          with_reducible refine (MRead_calls T7.out hc2 HX.out).mono ?_
          rintro e wp ⟨Ap, np, cp, rfl, hcp, hCp, hb⟩
          have Bp := Lib.hid (B7.out.trans (hb.mono B7.out.size)); have Tp := Lib.hid (Kd.C_below T7.out hb); have Cp := Lib.hid hCp; clear hb hCp
          go_wp2_with fail
          with_reducible refine (rRead_calls Tp.out hc2 HX.out).mono ?_
          rintro e wq ⟨Aq, nq, cq, rfl, hcq, hCq, hb⟩
          have Bq := Lib.hid (Bp.out.trans (hb.mono Bp.out.size)); have Cpq := Lib.hid (Kd.C_below Cp.out hb); have Cq := Lib.hid hCq; have hnp : np ≤ 1000 := by have h1 := Cp.out.1; have h2 := mread_len xs; omega
          clear hb hCq Bp Cp Tp
          go_wp2_with fail
          with_reducible refine (rSame_calls Cpq.out hcp Cq.out hcq hnp).mono ?_
          rintro e wr ⟨rfl, hb⟩
          rw [decide_eq_true (rfl : (mread xs).1 = (mread xs).1)]
          have Br := Lib.hid (Bq.out.trans (hb.mono Bq.out.size)); clear hb Bq Cpq Cq
          go_wp2_with fail
          with_reducible refine (lives29_calls _).mono ?_
          rintro e ws ⟨rfl, hb⟩
          have Bs := Lib.hid (Br.out.trans (hb.mono Br.out.size)); clear hb Br
          go_wp2
          go_ret
          exact ⟨rfl, Bs.out⟩
  · rw [decide_eq_false (show ¬ (n ≤ 100 ∧ 0 ≤ 100) from fun h' => h h'.1)] at HL
    go_enter Try.func15, Try.ntmps15
    go_wp2_with fail
    with_reducible refine HL.out.mono ?_
    rintro e w1 ⟨rfl, hb⟩
    have B1 := Lib.hid hb; clear hb
    go_wp2_with fail
    with_reducible refine (lives29_calls _).mono ?_
    rintro e w8 ⟨rfl, hb⟩
    have B8 := Lib.hid (B1.out.trans (hb.mono B1.out.size)); clear hb
    go_wp2
    go_ret
    exact ⟨rfl, B8.out⟩

end Go.Proofs.Ytabdjehnglmlpaa
